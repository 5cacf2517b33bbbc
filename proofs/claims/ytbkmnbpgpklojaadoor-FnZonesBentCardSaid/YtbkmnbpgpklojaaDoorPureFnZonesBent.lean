/- The pure law of FnZonesBent: its pure function answers true. -/
import Derived.Test.YtbkmnbpgpklojaaDoorFnsFnZonesBent
set_option linter.unusedSimpArgs false
set_option linter.unusedVariables false
namespace Go.Abs.M
open Go Go.Abs
theorem idx_nat {α : Type} {l : List α} {n : Nat} : idx l (n : Int) = l[n]? := by simp [idx]

def zrec : Rec := ⟨⟨#[]⟩, 0, 0, 0, ⟨#[]⟩, ⟨#[]⟩⟩

def first (p : Rec → Bool) (l : List Rec) : Rec := (l.find? p).getD zrec

def setOf (l : List Rec) (nm : ByteArray) (k : Int) : List Rec := l.filter fun r => decide (r.name = nm) && decide (r.ty = k)

theorem setOf_len (l : List Rec) (nm : ByteArray) (k : Int) : (setOf l nm k).length ≤ l.length := List.length_filter_le ..

theorem i_SetOf_l0_eq (nm : ByteArray) (k : Int) : ∀ (l out : List Rec) (i : Nat), out.length + l.length ≤ 1099511627776 → i_SetOf_l0 nm k l out i = some (out ++ setOf l nm k)
  | [], out, i, _ => by simp [i_SetOf_l0, setOf]
  | r :: l, out, i, h => by
    simp only [List.length_cons] at h
    have h1 := i_SetOf_l0_eq nm k l (out ++ [r]) (i + 1) (by simp; omega)
    have h2 := i_SetOf_l0_eq nm k l out (i + 1) (by omega)
    rw [i_SetOf_l0]
    by_cases c : r.name = nm <;> by_cases c' : r.ty = k <;> simp [i_SetOf_j1, c, c', h2, setOf] <;> first
      | (rw [grd_pos (by omega), h1]; simp [setOf, c, c'])

theorem s_SetOf_l0_eq (nm : ByteArray) (k : Int) : ∀ (l out : List Rec) (i : Nat), out.length + l.length ≤ 1099511627776 → s_SetOf_l0 nm k l out i = some (out ++ setOf l nm k)
  | [], out, i, _ => by simp [s_SetOf_l0, setOf]
  | r :: l, out, i, h => by
    simp only [List.length_cons] at h
    have h1 := s_SetOf_l0_eq nm k l (out ++ [r]) (i + 1) (by simp; omega)
    have h2 := s_SetOf_l0_eq nm k l out (i + 1) (by omega)
    rw [s_SetOf_l0]
    by_cases c : r.name = nm <;> by_cases c' : r.ty = k <;> simp [s_SetOf_j1, c, c', h2, setOf] <;> first
      | (rw [grd_pos (by omega), h1]; simp [setOf, c, c'])

def Rec.sm (r : Rec) : Prop := r.name.size ≤ 1048576 ∧ r.host.size ≤ 1048576 ∧ r.text.size ≤ 1048576

def smL (l : List Rec) : Prop := l.length ≤ 1048576 ∧ ∀ r, r ∈ l → r.sm

def MZone.sm (z : MZone) : Prop := z.apex.size ≤ 1048576 ∧ smL z.l

theorem i_SetOf_eq {l : List Rec} {nm : ByteArray} {k : Int} (h : smL l) : i_SetOf l nm k = some (setOf l nm k) := by
  unfold i_SetOf; rw [i_SetOf_l0_eq _ _ _ _ _ (by have := h.1; simp; omega)]; rfl

theorem s_SetOf_eq {l : List Rec} {nm : ByteArray} {k : Int} (h : smL l) : s_SetOf l nm k = some (setOf l nm k) := by
  unfold s_SetOf; rw [s_SetOf_l0_eq _ _ _ _ _ (by have := h.1; simp; omega)]; rfl

def mkB (l : List UInt8) : ByteArray := ⟨l.toArray⟩

def bts (s : ByteArray) : List UInt8 := s.data.toList

theorem bts_mkB (l : List UInt8) : bts (mkB l) = l := rfl

theorem mkB_bts (s : ByteArray) : mkB (bts s) = s := rfl

theorem bts_len (s : ByteArray) : (bts s).length = s.size := rfl

theorem bts_inj {a b : ByteArray} : bts a = bts b ↔ a = b := ⟨fun h => by rw [← mkB_bts a, ← mkB_bts b, h], fun h => by rw [h]⟩

theorem bts_nil_iff (s : ByteArray) : s = ⟨#[]⟩ ↔ bts s = [] := ⟨fun h => by subst h; rfl, fun h => bts_inj.1 (by rw [h]; rfl)⟩

theorem bts_extract (s : ByteArray) (a b : Nat) : bts (s.extract a b) = ((bts s).drop a).take (b - a) := by
  unfold bts
  rw [ByteArray.data_extract, Array.toList_extract, List.extract_eq_take_drop]

theorem extract_mkB (s : ByteArray) (a b : Nat) : s.extract a b = mkB (((bts s).drop a).take (b - a)) := by
  rw [← mkB_bts (s.extract a b), bts_extract]

theorem sidx_nat {s : ByteArray} {n : Nat} {b : UInt8} (h : (bts s)[n]? = some b) : sidx s (n : Int) = some (b.toNat : Int) := by
  obtain ⟨h1, h2⟩ := List.getElem?_eq_some_iff.1 h
  have h3 : n < s.size := h1
  unfold sidx
  rw [dif_pos ⟨by omega, by simpa using h3⟩]
  subst h2
  rfl

/-- The parts of bytes between the dots. -/
def segs : List UInt8 → List UInt8 → List (List UInt8)
  | cur, [] => [cur]
  | cur, b :: l => if b = 46 then cur :: segs [] l else segs (cur ++ [b]) l

def labels (s : ByteArray) : List ByteArray := if bts s = [] then [] else (segs [] (bts s)).map mkB

theorem segs_len : ∀ (l cur : List UInt8), (segs cur l).length ≤ l.length + 1
  | [], cur => by simp [segs]
  | b :: l, cur => by
    unfold segs
    split
    · have := segs_len l []; simp; omega
    · have := segs_len l (cur ++ [b]); simp; omega

theorem labels_len (s : ByteArray) : (labels s).length ≤ s.size + 1 := by
  unfold labels
  split
  · simp
  · have := segs_len (bts s) []
    rw [bts_len] at this
    simpa using this

theorem u8_eq46 (b : UInt8) : ((b.toNat : Int) = 46) ↔ b = 46 := by
  constructor
  · intro h
    have : b.toNat = 46 := by omega
    exact UInt8.toNat_inj.1 this
  · intro h; subst h; rfl

/-- The loop of the reference's Labels: from the place i on, the part having begun at the place f. -/
theorem s_Labels_l0_eq (s : ByteArray) (hs : s.size ≤ 1048576) (hne : s ≠ ⟨#[]⟩) : ∀ (k : Nat) (i f fl : Nat) (out : List ByteArray), s.size - i = k → f ≤ i → i ≤ s.size → out.length ≤ f → k + 1 < fl →
    s_Labels_l0 s fl out (f : Int) (i : Int) = some (out ++ (segs (((bts s).drop f).take (i - f)) ((bts s).drop i)).map mkB)
  | 0, i, f, fl, out, hk, hfi, hi, ho, hfl => by
    obtain ⟨fl, rfl⟩ : ∃ q, fl = q + 1 := ⟨fl - 1, by omega⟩
    obtain ⟨fl, rfl⟩ : ∃ q, fl = q + 1 := ⟨fl - 1, by omega⟩
    have hie : i = s.size := by omega
    rw [s_Labels_l0]
    have e1 : (bts s).drop i = [] := List.drop_eq_nil_of_le (by rw [bts_len]; omega)
    rw [e1]
    simp only [segs, List.map_cons, List.map_nil]
    have c1 : decide ((i : Int) ≤ (s.size : Int)) = true := by simpa using hi
    have c2 : (!decide (s = (⟨#[]⟩ : ByteArray))) = true := by simpa using hne
    rw [c1, c2, cond_true, s_Labels_j1, cond_true]
    have c3 : decide ((i : Int) = (s.size : Int)) = true := by simp [hie]
    rw [c3, cond_true, s_Labels_j2, cond_true, grd_pos (by omega), grd_pos (by simp; omega), grd_pos (by simp only [i64]; omega), grd_pos (by simp only [i64]; omega), s_Labels_l0]
    have c4 : decide ((i : Int) + 1 ≤ (s.size : Int)) = false := by simp; omega
    rw [c4, cond_false, s_Labels_j1, cond_false, extract_mkB]
    simp
  | k + 1, i, f, fl, out, hk, hfi, hi, ho, hfl => by
    obtain ⟨fl, rfl⟩ : ∃ q, fl = q + 1 := ⟨fl - 1, by omega⟩
    have hlt : i < (bts s).length := by rw [bts_len]; omega
    rw [s_Labels_l0]
    have c1 : decide ((i : Int) ≤ (s.size : Int)) = true := by simpa using hi
    have c2 : (!decide (s = (⟨#[]⟩ : ByteArray))) = true := by simpa using hne
    rw [c1, c2, cond_true, s_Labels_j1, cond_true]
    have c3 : decide ((i : Int) = (s.size : Int)) = false := by simp; omega
    have hb : (bts s)[i]? = some (bts s)[i] := List.getElem?_eq_getElem hlt
    rw [c3, cond_false, sidx_nat hb, bnd1_mk, List.drop_eq_getElem_cons hlt, segs]
    have e2 : ((i : Int) + 1) = ((i + 1 : Nat) : Int) := by omega
    by_cases c : (bts s)[i] = 46
    · rw [if_pos c]
      have c5 : decide ((((bts s)[i]).toNat : Int) = 46) = true := by simpa using (u8_eq46 _).2 c
      rw [c5, s_Labels_j2, cond_true, grd_pos (by omega), grd_pos (by simp; omega), grd_pos (by simp only [i64]; omega), grd_pos (by simp only [i64]; omega), e2,
        s_Labels_l0_eq s hs hne k (i + 1) (i + 1) fl _ (by omega) (by omega) (by omega) (by simp; omega) (by omega), extract_mkB]
      simp
    · rw [if_neg c]
      have c5 : decide ((((bts s)[i]).toNat : Int) = 46) = false := by
        have := fun h => c ((u8_eq46 _).1 h)
        simpa using this
      rw [c5, s_Labels_j2, cond_false, grd_pos (by simp only [i64]; omega), e2, s_Labels_l0_eq s hs hne k (i + 1) f fl _ (by omega) (by omega) (by omega) ho (by omega)]
      have e3 : ((bts s).drop f).take (i + 1 - f) = ((bts s).drop f).take (i - f) ++ [(bts s)[i]] := by
        rw [show i + 1 - f = (i - f) + 1 by omega, List.take_add_one]
        congr 1
        rw [List.getElem?_drop, show f + (i - f) = i by omega, hb]
        rfl
      rw [e3]

theorem s_Labels_eq {s : ByteArray} (hs : s.size ≤ 1048576) : s_Labels s = some (labels s) := by
  unfold s_Labels
  by_cases hne : s = ⟨#[]⟩
  · subst hne
    have : fuel0 = 4611686018427387903 + 1 := rfl
    rw [this, s_Labels_l0]
    rfl
  · have h := s_Labels_l0_eq s hs hne s.size 0 0 fuel0 [] (by omega) (by omega) (by omega) (by simp) (by unfold fuel0; omega)
    have e : bts s ≠ [] := fun h => hne ((bts_nil_iff s).2 h)
    simpa [labels, e] using h

theorem indexByte_none : ∀ {l : List UInt8}, Lib.indexByte l 46 = -1 → ∀ cur, segs cur l = [cur ++ l]
  | [], _, cur => by simp [segs]
  | b :: l, h, cur => by
    unfold Lib.indexByte at h
    by_cases c : b = 46
    · subst c; simp at h
    · have hb : (b == (46 : UInt8)) = false := by simpa using c
      rw [hb] at h
      simp only [Bool.false_eq_true, if_false] at h
      by_cases c' : Lib.indexByte l 46 = -1
      · rw [segs, if_neg c, indexByte_none c']; simp
      · have h1 := Lib.indexByte_ge l 46
        rw [if_neg (by simpa using c')] at h
        omega

theorem indexByte_some : ∀ {l : List UInt8} {k : Nat}, Lib.indexByte l 46 = (k : Int) → k < l.length ∧ ∀ cur, segs cur l = (cur ++ l.take k) :: segs [] (l.drop (k + 1))
  | [], k, h => by simp [Lib.indexByte] at h
  | b :: l, k, h => by
    unfold Lib.indexByte at h
    by_cases c : b = 46
    · subst c
      simp at h
      have : k = 0 := by omega
      subst this
      exact ⟨by simp, fun cur => by simp [segs]⟩
    · have hb : (b == (46 : UInt8)) = false := by simpa using c
      rw [hb] at h
      simp only [Bool.false_eq_true, if_false] at h
      have h1 := Lib.indexByte_ge l 46
      by_cases c' : Lib.indexByte l 46 = -1
      · rw [if_pos (by simpa using c')] at h; omega
      · rw [if_neg (by simpa using c')] at h
        obtain ⟨q, rfl⟩ : ∃ q, k = q + 1 := ⟨k - 1, by omega⟩
        obtain ⟨h2, h3⟩ := indexByte_some (l := l) (k := q) (by omega)
        exact ⟨by simp; omega, fun cur => by rw [segs, if_neg c, h3]; simp⟩

theorem count_segs : ∀ (l cur : List UInt8), (segs cur l).length = Lib.countByte l 46 + 1
  | [], cur => by simp [segs, Lib.countByte]
  | b :: l, cur => by
    unfold segs
    by_cases c : b = 46
    · subst c; rw [if_pos rfl, List.length_cons, count_segs l []]; simp [Lib.countByte]
    · rw [if_neg c, count_segs l]; simp [Lib.countByte, c]

theorem dotB : (⟨#[46]⟩ : ByteArray).size = 1 := rfl

theorem dot_sidx : sidx (⟨#[46]⟩ : ByteArray) 0 = some 46 := rfl

theorem strings_Index_dot {s : ByteArray} : strings_Index s ⟨#[46]⟩ = some (if s = ⟨#[46]⟩ then 0 else Lib.indexByte (bts s) 46) := by
  unfold strings_Index internal_stringslite_Index
  rw [dotB]
  by_cases c : s = ⟨#[46]⟩
  · subst c; simp [internal_stringslite_Index_j0]
  · have c' : ¬ ((⟨#[46]⟩ : ByteArray) = s) := fun h => c h.symm
    simp [internal_stringslite_Index_j0, c, c', dotB, dot_sidx, internal_stringslite_IndexByte]
    rfl

theorem strings_Index_dot' {s : ByteArray} : strings_Index s ⟨#[46]⟩ = some (Lib.indexByte (bts s) 46) := by
  rw [strings_Index_dot]
  by_cases c : s = ⟨#[46]⟩
  · subst c; rfl
  · rw [if_neg c]

theorem segs_pos (cur l : List UInt8) : 1 ≤ (segs cur l).length := by rw [count_segs]; omega

theorem idx_cases (l : List UInt8) : Lib.indexByte l 46 = -1 ∨ ∃ k : Nat, Lib.indexByte l 46 = (k : Int) := by
  have h := Lib.indexByte_ge l 46
  rcases Int.lt_or_le (Lib.indexByte l 46) 0 with h1 | h1
  · exact .inl (by omega)
  · exact .inr ⟨(Lib.indexByte l 46).toNat, by omega⟩

theorem genSplit_j1_eq {r : ByteArray} {a : List ByteArray} {i : Nat} (hi : i < a.length) (ha : a.length ≤ 1099511627776) : strings_genSplit_j1 r a (i : Int) = some (a.take i ++ [r]) := by
  unfold strings_genSplit_j1
  rw [idx_nat, List.getElem?_eq_getElem hi, bnd1_mk, grd_pos (by simp only [i64]; omega), grd_pos (by omega)]
  congr 1
  have e : ((i : Int) + 1).toNat - ((0 : Nat) : Int).toNat = i + 1 := by omega
  have e2 : (0 + ((0 : Nat) : Int).toNat) = 0 := by omega
  rw [e, e2, List.drop_zero, Int.toNat_natCast, List.take_add_one, List.take_set_of_le (Nat.le_refl i), List.getElem?_set_self hi]
  rfl

theorem genSplit_l2_eq (p0 : ByteArray) (j : Int) (n : Nat) (hj : (if (p0.size : Int) + 1 < j then (p0.size : Int) + 1 else j) - 1 = (n : Int)) : ∀ (k i fl : Nat) (r : ByteArray) (a : List ByteArray), n - i = k → i ≤ n → k < fl → a.length = n + 1 → a.length ≤ 1099511627776 → (segs [] (bts r)).length = n + 1 - i → r.size ≤ 1048576 →
    strings_genSplit_l2 p0 ⟨#[46]⟩ 0 j fl r a (i : Int) = some (a.take i ++ (segs [] (bts r)).map mkB)
  | 0, i, fl, r, a, hk, hi, hf, ha, ha', hs, hr => by
    obtain ⟨fl, rfl⟩ : ∃ q, fl = q + 1 := ⟨fl - 1, by omega⟩
    have hin : i = n := by omega
    rw [strings_genSplit_l2, hj]
    have c : decide ((i : Int) < (n : Int)) = false := by simp; omega
    rw [c, cond_false, genSplit_j1_eq (by omega) ha']
    rcases idx_cases (bts r) with h | ⟨q, h⟩
    · rw [indexByte_none h]; rfl
    · have h1 := (indexByte_some h).2 []
      have h2 := segs_pos [] ((bts r).drop (q + 1))
      rw [h1] at hs
      simp only [List.length_cons] at hs
      omega
  | k + 1, i, fl, r, a, hk, hi, hf, ha, ha', hs, hr => by
    obtain ⟨fl, rfl⟩ : ∃ q, fl = q + 1 := ⟨fl - 1, by omega⟩
    rw [strings_genSplit_l2, hj]
    have c : decide ((i : Int) < (n : Int)) = true := by simp; omega
    rw [c, cond_true, strings_Index_dot', bnd1_mk]
    rcases idx_cases (bts r) with h | ⟨q, h⟩
    · rw [indexByte_none h] at hs
      simp at hs
      omega
    · obtain ⟨h1, h2⟩ := indexByte_some h
      have h2 := h2 []
      rw [bts_len] at h1
      have hi' : i < a.length := by omega
      rw [h, dotB]
      have c' : decide ((q : Int) < 0) = false := by simp
      have e1 : ((i : Int) + 1) = ((i + 1 : Nat) : Int) := by omega
      rw [c', cond_false, grd_pos (by simp only [i64]; omega), grd_pos (by omega), idx_nat, List.getElem?_eq_getElem hi', bnd1_mk, grd_pos (by simp only [i64]; omega), grd_pos (by omega), grd_pos (by simp only [i64]; omega), e1]
      have e2 : bts (r.extract ((q : Int) + ((1 : Nat) : Int)).toNat (r.size : Int).toNat) = (bts r).drop (q + 1) := by
        rw [bts_extract]
        have e3 : ((q : Int) + ((1 : Nat) : Int)).toNat = q + 1 := by omega
        rw [e3, List.take_of_length_le (by rw [List.length_drop, bts_len]; omega)]
      rw [h2, List.length_cons] at hs
      rw [genSplit_l2_eq p0 j n hj k (i + 1) fl _ _ (by omega) (by omega) (by omega) (by simp [ha]) (by simp [ha']) (by rw [e2]; omega) (by rw [ByteArray.size_extract]; omega), e2, h2]
      congr 1
      rw [Int.toNat_natCast, List.take_add_one, List.take_set_of_le (Nat.le_refl i), List.getElem?_set_self hi', extract_mkB]
      have e4 : ((q : Int) + 0).toNat - ((0 : Nat) : Int).toNat = q := by omega
      rw [e4]
      simp

theorem strings_Count_dot {s : ByteArray} : strings_Count s ⟨#[46]⟩ = some ((Lib.countByte (bts s) 46 : Nat) : Int) := by
  unfold strings_Count
  have c1 : decide (((⟨#[46]⟩ : ByteArray).size : Int) = 0) = false := by rw [dotB]; decide
  have c2 : decide (((⟨#[46]⟩ : ByteArray).size : Int) = 1) = true := by rw [dotB]; decide
  have h46 : (46 : Int).toNat.toUInt8 = 46 := by decide
  rw [c1, cond_false, c2, cond_true, dot_sidx, bnd1_mk, h46]
  rfl

theorem i_Labels_eq {s : ByteArray} (hs : s.size ≤ 1048576) : i_Labels s = some (labels s) := by
  unfold i_Labels
  by_cases hne : s = ⟨#[]⟩
  · subst hne
    have e : bts (⟨#[]⟩ : ByteArray) = [] := rfl
    simp [labels, e]
  · have e : bts s ≠ [] := fun h => hne ((bts_nil_iff s).2 h)
    have hne' : ¬ ((⟨#[46]⟩ : ByteArray) = ⟨#[]⟩) := by decide
    have hc := count_segs (bts s) []
    have hl := segs_len (bts s) []
    rw [bts_len] at hl
    have e0 := strings_Count_dot (s := s)
    have hjj : (if (s.size : Int) + 1 < ((Lib.countByte (bts s) 46 : Nat) : Int) + 1 then (s.size : Int) + 1 else ((Lib.countByte (bts s) 46 : Nat) : Int) + 1) = ((Lib.countByte (bts s) 46 : Nat) : Int) + 1 := by rw [if_neg (by omega)]
    have hloop := genSplit_l2_eq s (((Lib.countByte (bts s) 46 : Nat) : Int) + 1) (Lib.countByte (bts s) 46) (by rw [hjj]; omega) (Lib.countByte (bts s) 46) 0 fuel0 s (List.replicate (((Lib.countByte (bts s) 46 : Nat) : Int) + 1).toNat ⟨#[]⟩) (by omega) (by omega) (by unfold fuel0; omega) (by simp) (by simp; omega) (by omega) hs
    have g0 : decide ((-1 : Int) = 0) = false := by decide
    have g1 : decide ((⟨#[46]⟩ : ByteArray) = ⟨#[]⟩) = false := decide_eq_false hne'
    have g2 : decide ((-1 : Int) < 0) = true := by decide
    rw [decide_eq_false hne, cond_false, strings_Split, strings_genSplit, g0, g1, g2, cond_false, cond_false, cond_true, e0, bnd1_mk, grd_pos (by simp only [i64]; omega), strings_genSplit_j0, hjj, grd_pos (by simp only [i64]; omega), grd_pos (by omega), grd_pos (by simp only [i64]; omega)]
    rw [Int.natCast_zero] at hloop
    rw [hloop, bnd1_mk, bnd1_mk]
    unfold labels
    rw [if_neg e, List.take_zero, List.nil_append]

theorem idx_sub {α : Type} {l : List α} {n : Nat} (h : n ≤ l.length) : idx l ((l.length : Int) - (n : Int)) = l[l.length - n]? := by
  have e : (l.length : Int) - (n : Int) = ((l.length - n : Nat) : Int) := by omega
  rw [e, idx_nat]

def under (a b : ByteArray) : Bool := decide ((labels b).length ≤ (labels a).length) && decide ((labels a).drop ((labels a).length - (labels b).length) = labels b)

theorem slices_Equal_string_l0_eq : ∀ (t : List ByteArray) (pre q : List ByteArray), t.length = q.length → slices_Equal_string_l0 (pre ++ q) t pre.length = some (decide (t = q))
  | [], pre, q, h => by cases q with | nil => rfl | cons a b => simp at h
  | x :: t, pre, q, h => by
    cases q with
    | nil => simp at h
    | cons y q =>
      rw [slices_Equal_string_l0]
      have := slices_Equal_string_l0_eq t (pre ++ [y]) q (by simpa using h)
      simp only [idx_nat]
      simp only [List.length_append, List.length_singleton, List.append_assoc, List.singleton_append] at this
      by_cases c : x = y <;> simp [c, this]

theorem slices_Equal_string_eq {a b : List ByteArray} : slices_Equal_string a b = some (decide (a = b)) := by
  unfold slices_Equal_string
  by_cases c : a.length = b.length
  · have := slices_Equal_string_l0_eq a [] b c
    simpa [c] using this
  · have c' : a ≠ b := fun h => c (by rw [h])
    have c2 : ¬ ((a.length : Int) = (b.length : Int)) := by omega
    simp [c2, c']

theorem i_Under_eq {a b : ByteArray} (ha : a.size ≤ 1048576) (hb : b.size ≤ 1048576) : i_Under a b = some (under a b) := by
  unfold i_Under
  have la := labels_len a
  have lb := labels_len b
  rw [i_Labels_eq ha, i_Labels_eq hb, bnd1_mk, bnd1_mk]
  unfold under
  by_cases c : (labels b).length ≤ (labels a).length
  · have c' : decide (((labels b).length : Int) ≤ ((labels a).length : Int)) = true := by simpa using c
    rw [c', cond_true, grd_pos (by simp only [i64]; omega), grd_pos (by omega), slices_Equal_string_eq, bnd1_mk]
    have e1 : (((labels a).length : Int) - ((labels b).length : Int)).toNat = (labels a).length - (labels b).length := by omega
    rw [e1, List.take_of_length_le (by simp)]
    simp [c]
  · have c' : decide (((labels b).length : Int) ≤ ((labels a).length : Int)) = false := by simp; omega
    rw [c', cond_false]
    simp [c]

/-- The loop of the reference's Under: the last i - 1 parts are alike. -/
theorem s_Under_l0_eq (x y : List ByteArray) (hx : x.length ≤ 2097152) (hl : y.length ≤ x.length) : ∀ (k i fl : Nat), y.length + 1 - i = k → 1 ≤ i → i ≤ y.length + 1 → k < fl → x.drop (x.length - (i - 1)) = y.drop (y.length - (i - 1)) →
    s_Under_l0 x y fl (i : Int) = some (decide (x.drop (x.length - y.length) = y))
  | 0, i, fl, hk, h1, hi, hf, hd => by
    obtain ⟨fl, rfl⟩ : ∃ q, fl = q + 1 := ⟨fl - 1, by omega⟩
    rw [s_Under_l0]
    have c : decide ((i : Int) ≤ (y.length : Int)) = false := by simp; omega
    have e : i - 1 = y.length := by omega
    rw [e, Nat.sub_self, List.drop_zero] at hd
    rw [c, cond_false, decide_eq_true hd]
  | k + 1, i, fl, hk, h1, hi, hf, hd => by
    obtain ⟨fl, rfl⟩ : ∃ q, fl = q + 1 := ⟨fl - 1, by omega⟩
    rw [s_Under_l0]
    have c : decide ((i : Int) ≤ (y.length : Int)) = true := by simp; omega
    have hx' : x.length - i < x.length := by omega
    have hy' : y.length - i < y.length := by omega
    rw [c, cond_true, grd_pos (by simp only [i64]; omega), idx_sub (by omega), List.getElem?_eq_getElem hx', bnd1_mk, grd_pos (by simp only [i64]; omega), idx_sub (by omega), List.getElem?_eq_getElem hy', bnd1_mk]
    have ex : x.drop (x.length - i) = x[x.length - i] :: x.drop (x.length - (i - 1)) := by
      rw [List.drop_eq_getElem_cons hx', show x.length - i + 1 = x.length - (i - 1) by omega]
    have ey : y.drop (y.length - i) = y[y.length - i] :: y.drop (y.length - (i - 1)) := by
      rw [List.drop_eq_getElem_cons hy', show y.length - i + 1 = y.length - (i - 1) by omega]
    by_cases c2 : x[x.length - i] = y[y.length - i]
    · have e1 : ((i : Int) + 1) = ((i + 1 : Nat) : Int) := by omega
      rw [decide_eq_true c2, Bool.not_true, cond_false, grd_pos (by simp only [i64]; omega), e1, s_Under_l0_eq x y hx hl k (i + 1) fl (by omega) (by omega) (by omega) (by omega) (by rw [Nat.add_sub_cancel, ex, ey, c2, hd])]
    · rw [decide_eq_false c2, Bool.not_false, cond_true]
      have : ¬ (x.drop (x.length - y.length) = y) := fun h => c2 (by
        have h2 : (x.drop (x.length - y.length)).drop (y.length - i) = y.drop (y.length - i) := by rw [h]
        rw [List.drop_drop, show x.length - y.length + (y.length - i) = x.length - i by omega, ex, ey] at h2
        exact (List.cons.inj h2).1)
      rw [decide_eq_false this]

theorem s_Under_eq {a b : ByteArray} (ha : a.size ≤ 1048576) (hb : b.size ≤ 1048576) : s_Under a b = some (under a b) := by
  unfold s_Under
  have la := labels_len a
  have lb := labels_len b
  rw [s_Labels_eq ha, s_Labels_eq hb, bnd1_mk, bnd1_mk]
  unfold under
  by_cases c : (labels b).length ≤ (labels a).length
  · have c' : decide (((labels a).length : Int) < ((labels b).length : Int)) = false := by simp; omega
    have := s_Under_l0_eq (labels a) (labels b) (by omega) c (labels b).length 1 fuel0 (by omega) (by omega) (by omega) (by unfold fuel0; omega) (by simp)
    rw [c', cond_false]
    rw [show ((1 : Nat) : Int) = 1 from rfl] at this
    rw [this]
    simp [c]
  · have c' : decide (((labels a).length : Int) < ((labels b).length : Int)) = true := by simp; omega
    rw [c', cond_true]
    simp [c]

theorem slices_IndexFunc_Record_l0_eq {g : Rec → Option Bool} {p : Rec → Bool} : ∀ (l : List Rec) (i : Nat), (∀ r, r ∈ l → g r = some (p r)) → ∃ v, slices_IndexFunc_Record_l0 g l i = some v ∧ decide (0 ≤ v) = l.any p
  | [], i, _ => ⟨-1, rfl, rfl⟩
  | r :: l, i, h => by
    rw [slices_IndexFunc_Record_l0, h r (.head _), bnd1_mk]
    cases c : p r with
    | true => exact ⟨i, rfl, by simp [c]⟩
    | false =>
      obtain ⟨v, h1, h2⟩ := slices_IndexFunc_Record_l0_eq l (i + 1) fun q hq => h q (.tail _ hq)
      exact ⟨v, h1, by simp [c, h2]⟩

theorem slices_ContainsFunc_Record_eq {g : Rec → Option Bool} {p : Rec → Bool} {l : List Rec} (h : ∀ r, r ∈ l → g r = some (p r)) : slices_ContainsFunc_Record l g = some (l.any p) := by
  obtain ⟨v, h1, h2⟩ := slices_IndexFunc_Record_l0_eq l 0 h
  unfold slices_ContainsFunc_Record slices_IndexFunc_Record
  rw [h1, bnd1_mk, h2]

theorem i_Exists_eq {z : MZone} {s : ByteArray} (hz : smL z.l) (hs : s.size ≤ 1048576) : i_Exists z s = some (z.l.any fun r => under r.name s) := by
  unfold i_Exists
  rw [slices_ContainsFunc_Record_eq (p := fun r => under r.name s) fun r hr => by unfold i_Exists_1; rw [i_Under_eq (hz.2 r hr).1 hs]; rfl]
  rfl

theorem s_Exists_l0_eq {s : ByteArray} (hs : s.size ≤ 1048576) : ∀ (l : List Rec) (i : Nat), (∀ r, r ∈ l → r.sm) → s_Exists_l0 s l i = some (l.any fun r => under r.name s)
  | [], i, _ => rfl
  | r :: l, i, h => by
    rw [s_Exists_l0, s_Under_eq (h r (.head _)).1 hs, bnd1_mk, s_Exists_l0_eq hs l (i + 1) fun q hq => h q (.tail _ hq)]
    cases c : under r.name s <;> simp [c]

theorem s_Exists_eq {z : MZone} {s : ByteArray} (hz : smL z.l) (hs : s.size ≤ 1048576) : s_Exists z s = some (z.l.any fun r => under r.name s) := s_Exists_l0_eq hs _ _ hz.2

def hasS (s : ByteArray) (l : List ByteArray) : Bool := l.any fun x => decide (x = s)

theorem s_l9Has_l0_eq {s : ByteArray} : ∀ (l : List ByteArray) (i : Nat), s_l9Has_l0 s l i = some (hasS s l)
  | [], i => rfl
  | x :: l, i => by
    rw [s_l9Has_l0, s_l9Has_l0_eq l (i + 1)]
    by_cases c : x = s <;> simp [c, hasS]

theorem s_l9Has_eq {l : List ByteArray} {s : ByteArray} : s_l9Has l s = some (hasS s l) := s_l9Has_l0_eq _ _

theorem slices_Index_string_l0_eq {s : ByteArray} : ∀ (l : List ByteArray) (i : Nat), ∃ v, slices_Index_string_l0 s l i = some v ∧ decide (0 ≤ v) = hasS s l
  | [], i => ⟨-1, rfl, rfl⟩
  | x :: l, i => by
    rw [slices_Index_string_l0]
    by_cases c : s = x
    · subst c; exact ⟨i, by simp, by simp [hasS]⟩
    · obtain ⟨v, h1, h2⟩ := slices_Index_string_l0_eq (s := s) l (i + 1)
      have c' : ¬ (x = s) := fun h => c h.symm
      exact ⟨v, by simp [c, h1], by rw [h2]; simp [hasS, c']⟩

theorem slices_Contains_string_eq {l : List ByteArray} {s : ByteArray} : slices_Contains_string l s = some (hasS s l) := by
  obtain ⟨v, h1, h2⟩ := slices_Index_string_l0_eq (s := s) l 0
  unfold slices_Contains_string slices_Index_string
  rw [h1, bnd1_mk, h2]

/-- The cuts of a zone, as they are collected. -/
def cutP (apex : ByteArray) (out : List ByteArray) (r : Rec) : Bool := decide (r.ty = 2) && (!decide (r.name = apex) && (under r.name apex && !hasS r.name out))

def cutsL (apex : ByteArray) : List Rec → List ByteArray → List ByteArray
  | [], out => out
  | r :: l, out => bif cutP apex out r then cutsL apex l (out ++ [r.name]) else cutsL apex l out

def cutsOf (z : MZone) : List ByteArray := cutsL z.apex z.l []

theorem cutsL_len (apex : ByteArray) : ∀ (l : List Rec) (out : List ByteArray), (cutsL apex l out).length ≤ out.length + l.length
  | [], out => Nat.le_refl _
  | r :: l, out => by
    unfold cutsL
    have h1 := cutsL_len apex l (out ++ [r.name])
    have h2 := cutsL_len apex l out
    cases cutP apex out r <;> simp at h1 h2 ⊢ <;> omega

theorem cutsL_mem (apex : ByteArray) : ∀ (l : List Rec) (out : List ByteArray) (x : ByteArray), x ∈ cutsL apex l out → x ∈ out ∨ ∃ r, r ∈ l ∧ r.name = x
  | [], out, x, h => .inl h
  | r :: l, out, x, h => by
    unfold cutsL at h
    cases c : cutP apex out r with
    | true =>
      rw [c, cond_true] at h
      rcases cutsL_mem apex l _ x h with h1 | ⟨q, h1, h2⟩
      · rcases List.mem_append.1 h1 with h2 | h2
        · exact .inl h2
        · rw [List.mem_singleton] at h2; exact .inr ⟨r, .head _, h2.symm⟩
      · exact .inr ⟨q, .tail _ h1, h2⟩
    | false =>
      rw [c, cond_false] at h
      rcases cutsL_mem apex l _ x h with h1 | ⟨q, h1, h2⟩
      · exact .inl h1
      · exact .inr ⟨q, .tail _ h1, h2⟩

theorem cutsOf_sm {z : MZone} (h : z.sm) : (cutsOf z).length ≤ 1048576 ∧ ∀ x, x ∈ cutsOf z → x.size ≤ 1048576 := by
  refine ⟨?_, fun x hx => ?_⟩
  · have h1 := cutsL_len z.apex z.l []
    have h2 := h.2.1
    simp only [List.length_nil] at h1
    unfold cutsOf; omega
  · rcases cutsL_mem z.apex z.l [] x hx with h1 | ⟨r, h1, rfl⟩
    · cases h1
    · exact (h.2.2 r h1).1

theorem i_CutsOf_l0_eq {z : MZone} (hz : z.apex.size ≤ 1048576) : ∀ (l : List Rec) (out : List ByteArray) (i : Nat), (∀ r, r ∈ l → r.sm) → out.length + l.length ≤ 1048576 → i_CutsOf_l0 z l out i = some (cutsL z.apex l out)
  | [], out, i, _, _ => rfl
  | r :: l, out, i, h, hl => by
    have hr := (h r (.head _)).1
    simp only [List.length_cons] at hl
    have h1 := i_CutsOf_l0_eq hz l (out ++ [r.name]) (i + 1) (fun q hq => h q (.tail _ hq)) (by simp; omega)
    have h2 := i_CutsOf_l0_eq hz l out (i + 1) (fun q hq => h q (.tail _ hq)) (by omega)
    rw [i_CutsOf_l0, cutsL, cutP]
    by_cases c1 : r.ty = 2 <;> by_cases c2 : r.name = z.apex <;> cases c3 : under r.name z.apex <;> cases c4 : hasS r.name out <;>
      simp [i_CutsOf_j1, c1, c2, h2, i_Under_eq hr hz, c3, slices_Contains_string_eq, c4] <;> first | done | (rw [grd_pos (by omega)]; exact h1) | simp_all [i_Under_eq hr hz, slices_Contains_string_eq]

theorem i_CutsOf_eq {z : MZone} (h : z.sm) : i_CutsOf z = some (cutsOf z) := i_CutsOf_l0_eq h.1 _ _ _ h.2.2 (by simpa using h.2.1)

theorem s_CutsOf_l0_eq {z : MZone} (hz : z.apex.size ≤ 1048576) : ∀ (l : List Rec) (out : List ByteArray) (i : Nat), (∀ r, r ∈ l → r.sm) → out.length + l.length ≤ 1048576 → s_CutsOf_l0 z l out i = some (cutsL z.apex l out)
  | [], out, i, _, _ => rfl
  | r :: l, out, i, h, hl => by
    have hr := (h r (.head _)).1
    simp only [List.length_cons] at hl
    have h1 := s_CutsOf_l0_eq hz l (out ++ [r.name]) (i + 1) (fun q hq => h q (.tail _ hq)) (by simp; omega)
    have h2 := s_CutsOf_l0_eq hz l out (i + 1) (fun q hq => h q (.tail _ hq)) (by omega)
    rw [s_CutsOf_l0, cutsL, cutP]
    by_cases c1 : r.ty = 2 <;> by_cases c2 : r.name = z.apex <;> cases c3 : under r.name z.apex <;> cases c4 : hasS r.name out <;>
      simp [s_CutsOf_j1, c1, c2, h2, s_Under_eq hr hz, c3, s_l9Has_eq, c4] <;> first | done | (rw [grd_pos (by omega)]; exact h1) | simp_all [s_Under_eq hr hz, s_l9Has_eq]

theorem s_CutsOf_eq {z : MZone} (h : z.sm) : s_CutsOf z = some (cutsOf z) := s_CutsOf_l0_eq h.1 _ _ _ h.2.2 (by simpa using h.2.1)

def cutOf (z : MZone) (s : ByteArray) : ByteArray × Bool := match (cutsOf z).find? (under s) with | some c => (c, true) | none => (⟨#[]⟩, false)

theorem i_CutOf_l0_eq {s : ByteArray} (hs : s.size ≤ 1048576) : ∀ (l : List ByteArray) (i : Nat), (∀ x, x ∈ l → x.size ≤ 1048576) → i_CutOf_l0 s l i = some (match l.find? (under s) with | some c => (c, true) | none => (⟨#[]⟩, false))
  | [], i, _ => rfl
  | x :: l, i, h => by
    rw [i_CutOf_l0, i_Under_eq hs (h x (.head _)), bnd1_mk, i_CutOf_l0_eq hs l (i + 1) fun y hy => h y (.tail _ hy)]
    cases c : under s x <;> simp [c]

theorem s_CutOf_l0_eq {s : ByteArray} (hs : s.size ≤ 1048576) : ∀ (l : List ByteArray) (i : Nat), (∀ x, x ∈ l → x.size ≤ 1048576) → s_CutOf_l0 s l i = some (match l.find? (under s) with | some c => (c, true) | none => (⟨#[]⟩, false))
  | [], i, _ => rfl
  | x :: l, i, h => by
    rw [s_CutOf_l0, s_Under_eq hs (h x (.head _)), bnd1_mk, s_CutOf_l0_eq hs l (i + 1) fun y hy => h y (.tail _ hy)]
    cases c : under s x <;> simp [c]

theorem i_CutOf_eq {z : MZone} {s : ByteArray} (h : z.sm) (hs : s.size ≤ 1048576) : i_CutOf z s = some (cutOf z s) := by
  unfold i_CutOf; rw [i_CutsOf_eq h, bnd1_mk, i_CutOf_l0_eq hs _ _ (cutsOf_sm h).2]; rfl

theorem s_CutOf_eq {z : MZone} {s : ByteArray} (h : z.sm) (hs : s.size ≤ 1048576) : s_CutOf z s = some (cutOf z s) := by
  unfold s_CutOf; rw [s_CutsOf_eq h, bnd1_mk, s_CutOf_l0_eq hs _ _ (cutsOf_sm h).2]; rfl

def inZone (z : MZone) (s : ByteArray) : Bool := under s z.apex && !(cutOf z s).2

theorem i_InZone_eq {z : MZone} {s : ByteArray} (h : z.sm) (hs : s.size ≤ 1048576) : i_InZone z s = some (inZone z s) := by
  unfold i_InZone inZone
  have h2 := i_CutOf_eq h hs
  generalize cutOf z s = x at h2
  obtain ⟨x, y⟩ := x
  rw [h2, bnd2_mk, i_Under_eq hs h.1, bnd1_mk]
  cases under s z.apex <;> rfl

theorem s_InZone_eq {z : MZone} {s : ByteArray} (h : z.sm) (hs : s.size ≤ 1048576) : s_InZone z s = some (inZone z s) := by
  unfold s_InZone inZone
  have h2 := s_CutOf_eq h hs
  generalize cutOf z s = x at h2
  obtain ⟨x, y⟩ := x
  rw [h2, bnd2_mk, s_Under_eq hs h.1, bnd1_mk]
  cases under s z.apex <;> rfl

theorem set_app {α : Type} (pre t : List α) (x y : α) : (pre ++ x :: t).set pre.length y = pre ++ y :: t := by simp

theorem get_app {α : Type} (pre t : List α) (x : α) : (pre ++ x :: t)[pre.length]? = some x := by simp

def hostP (out : List ByteArray) (r : Rec) : Bool := decide (r.ty = 2) && !hasS r.host out

def hostsL : List Rec → List ByteArray → List ByteArray
  | [], out => out
  | r :: l, out => bif hostP out r then hostsL l (out ++ [r.host]) else hostsL l out

theorem hostsL_len : ∀ (l : List Rec) (out : List ByteArray), (hostsL l out).length ≤ out.length + l.length
  | [], out => Nat.le_refl _
  | r :: l, out => by
    unfold hostsL
    have h1 := hostsL_len l (out ++ [r.host])
    have h2 := hostsL_len l out
    cases hostP out r <;> simp at h1 h2 ⊢ <;> omega

theorem s_Hosts_l0_eq : ∀ (l : List Rec) (out : List ByteArray) (i : Nat), out.length + l.length ≤ 1048576 → s_Hosts_l0 l out i = some (hostsL l out)
  | [], out, i, _ => rfl
  | r :: l, out, i, hl => by
    simp only [List.length_cons] at hl
    have h1 := s_Hosts_l0_eq l (out ++ [r.host]) (i + 1) (by simp; omega)
    have h2 := s_Hosts_l0_eq l out (i + 1) (by omega)
    rw [s_Hosts_l0, hostsL, hostP, s_l9Has_eq, bnd1_mk]
    by_cases c1 : r.ty = 2 <;> cases c4 : hasS r.host out <;> simp [s_Hosts_j1, c1, h2] <;> (rw [grd_pos (by omega)]; exact h1)

theorem s_Hosts_eq {l : List Rec} (h : smL l) : s_Hosts l = some (hostsL l []) := s_Hosts_l0_eq _ _ _ (by simpa using h.1)

theorem rec_ext {a b : Rec} : (decide (a.name = b.name) && (decide (a.ty = b.ty) && (decide (a.ttl = b.ttl) && (decide (a.n = b.n) && (decide (a.host = b.host) && (decide (a.text = b.text) && true)))))) = decide (a = b) := by
  cases a; cases b
  simp [Bool.and_assoc]

def glueL (zl : List Rec) (l : List ByteArray) : List Rec := l.flatMap fun h => setOf zl h 1

theorem i_Glue_l0_eq {z : MZone} (hz : smL z.l) : ∀ (l : List ByteArray) (out : List Rec) (i : Nat), out.length + l.length * 1048576 ≤ 1099511627776 → i_Glue_l0 z l out i = some (out ++ glueL z.l l)
  | [], out, i, _ => by simp [i_Glue_l0, glueL]
  | x :: l, out, i, hl => by
    rw [List.length_cons, Nat.add_mul, Nat.one_mul] at hl
    have h2 := setOf_len z.l x 1
    have h3 := hz.1
    have hq : (out ++ setOf z.l x 1).length + l.length * 1048576 ≤ 1099511627776 := by rw [List.length_append]; generalize l.length * 1048576 = Q at hl ⊢; omega
    have e : glueL z.l (x :: l) = setOf z.l x 1 ++ glueL z.l l := by simp [glueL]
    rw [i_Glue_l0, i_SetOf_eq hz, bnd1_mk, grd_pos (Nat.le_trans (Nat.le_add_right _ _) hq), i_Glue_l0_eq hz l _ (i + 1) hq, e, List.append_assoc]

theorem s_Glue_l0_eq {z : MZone} (hz : smL z.l) : ∀ (l : List ByteArray) (out : List Rec) (i : Nat), out.length + l.length * 1048576 ≤ 1099511627776 → s_Glue_l0 z l out i = some (out ++ glueL z.l l)
  | [], out, i, _ => by simp [s_Glue_l0, glueL]
  | x :: l, out, i, hl => by
    rw [List.length_cons, Nat.add_mul, Nat.one_mul] at hl
    have h2 := setOf_len z.l x 1
    have h3 := hz.1
    have hq : (out ++ setOf z.l x 1).length + l.length * 1048576 ≤ 1099511627776 := by rw [List.length_append]; generalize l.length * 1048576 = Q at hl ⊢; omega
    have e : glueL z.l (x :: l) = setOf z.l x 1 ++ glueL z.l l := by simp [glueL]
    rw [s_Glue_l0, s_SetOf_eq hz, bnd1_mk, grd_pos (Nat.le_trans (Nat.le_add_right _ _) hq), s_Glue_l0_eq hz l _ (i + 1) hq, e, List.append_assoc]

theorem i_Glue_eq {z : MZone} {l : List ByteArray} (hz : smL z.l) (hl : l.length ≤ 1048576) : i_Glue z l = some (glueL z.l l) := i_Glue_l0_eq hz l [] 0 (by rw [List.length_nil]; have := Nat.mul_le_mul_right 1048576 hl; omega)

theorem s_Glue_eq {z : MZone} {l : List ByteArray} (hz : smL z.l) (hl : l.length ≤ 1048576) : s_Glue z l = some (glueL z.l l) := s_Glue_l0_eq hz l [] 0 (by rw [List.length_nil]; have := Nat.mul_le_mul_right 1048576 hl; omega)

theorem segs_mem : ∀ (l cur x : List UInt8), x ∈ segs cur l → x.length ≤ cur.length + l.length
  | [], cur, x, h => by
    unfold segs at h
    rw [List.mem_singleton] at h
    subst h; simp
  | b :: l, cur, x, h => by
    unfold segs at h
    split at h
    · rcases List.mem_cons.1 h with h | h
      · subst h; simp
      · have := segs_mem l [] x h
        simp at this ⊢; omega
    · have := segs_mem l (cur ++ [b]) x h
      simp at this ⊢; omega

theorem labels_mem {s x : ByteArray} (h : x ∈ labels s) : x.size ≤ s.size := by
  unfold labels at h
  split at h
  · cases h
  · obtain ⟨y, hy, e⟩ := List.mem_map.1 h
    have h1 := segs_mem _ _ _ hy
    subst e
    rw [← bts_len, bts_mkB, ← bts_len s]
    simpa using h1

def chP (n : Int) : Bool := (decide (97 ≤ n) && decide (n ≤ 122)) || ((decide (48 ≤ n) && decide (n ≤ 57)) || (decide (n = 45) || decide (n = 95)))

def labelP (s : ByteArray) : Bool := ((bts s).all fun b => chP b.toNat) && (decide (1 ≤ (s.size : Int)) && decide ((s.size : Int) ≤ 12))

theorem s_l1In_eq {a b c : Int} : s_l1In a b c = some (decide (b ≤ a) && decide (a ≤ c)) := by
  unfold s_l1In; cases decide (b ≤ a) <;> rfl

theorem s_l2Byte_eq {b : UInt8} : s_l2Byte (b.toNat : Int) = some (chP b.toNat) := by
  have h := b.toNat_lt
  unfold s_l2Byte chP
  rw [wrap_id (by omega), s_l1In_eq, bnd1_mk, s_l1In_eq, bnd1_mk]
  cases decide (97 ≤ (b.toNat : Int)) && decide ((b.toNat : Int) ≤ 122) <;> cases decide (48 ≤ (b.toNat : Int)) && decide ((b.toNat : Int) ≤ 57) <;> cases decide ((b.toNat : Int) = 45) <;> rfl

theorem drop_all {s : ByteArray} {i : Nat} {b : UInt8} {p : UInt8 → Bool} (h : (bts s)[i]? = some b) : ((bts s).drop i).all p = (p b && ((bts s).drop (i + 1)).all p) := by
  obtain ⟨h1, h2⟩ := List.getElem?_eq_some_iff.1 h
  rw [List.drop_eq_getElem_cons h1, List.all_cons, h2]

theorem bts_get {s : ByteArray} {i : Nat} (h : i < s.size) : ∃ b, (bts s)[i]? = some b := ⟨(bts s)[i]'h, List.getElem?_eq_getElem h⟩

theorem s_LabelOk_l1_eq {s : ByteArray} (hs : s.size ≤ 1048576) : ∀ (k i fl : Nat), s.size - i = k → i ≤ s.size → k < fl → s_LabelOk_l1 s fl (i : Int) = some (((bts s).drop i).all (fun b => chP b.toNat) && (decide (1 ≤ (s.size : Int)) && decide ((s.size : Int) ≤ 12)))
  | 0, i, fl, hk, hi, hf => by
    obtain ⟨fl, rfl⟩ : ∃ q, fl = q + 1 := ⟨fl - 1, by omega⟩
    have c : ¬ ((i : Int) < (s.size : Int)) := by omega
    have e : (bts s).drop i = [] := List.drop_eq_nil_of_le (by rw [bts_len]; omega)
    rw [s_LabelOk_l1, decide_eq_false c, cond_false, e]
    unfold s_LabelOk_j0
    rw [s_l1In_eq]; rfl
  | k + 1, i, fl, hk, hi, hf => by
    obtain ⟨fl, rfl⟩ : ∃ q, fl = q + 1 := ⟨fl - 1, by omega⟩
    have c : (i : Int) < (s.size : Int) := by omega
    obtain ⟨b, hb⟩ := bts_get (s := s) (i := i) (by omega)
    have h := s_LabelOk_l1_eq hs k (i + 1) fl (by omega) (by omega) (by omega)
    rw [s_LabelOk_l1, decide_eq_true c, cond_true, sidx_nat hb, bnd1_mk, s_l2Byte_eq, bnd1_mk, grd_pos (by simp only [i64]; omega)]
    have e : ((i : Int) + 1) = ((i + 1 : Nat) : Int) := by omega
    rw [e, h, drop_all hb]
    cases chP b.toNat <;> rfl

theorem fuel_lt {k : Nat} (h : k ≤ 1048576) : k < fuel0 := by unfold fuel0; omega

theorem s_LabelOk_eq {s : ByteArray} (hs : s.size ≤ 1048576) : s_LabelOk s = some (labelP s) := by
  have h := s_LabelOk_l1_eq hs s.size 0 fuel0 (by omega) (by omega) (fuel_lt hs)
  unfold s_LabelOk
  exact h

theorem i_LabelOk_l1_eq {s : ByteArray} (hs : s.size ≤ 1048576) : ∀ (k i fl : Nat), s.size - i = k → i ≤ s.size → k < fl → i_LabelOk_l1 s fl (i : Int) = some (((bts s).drop i).all (fun b => chP b.toNat) && (decide (1 ≤ (s.size : Int)) && decide ((s.size : Int) ≤ 12)))
  | 0, i, fl, hk, hi, hf => by
    obtain ⟨fl, rfl⟩ : ∃ q, fl = q + 1 := ⟨fl - 1, by omega⟩
    have c : ¬ ((i : Int) < (s.size : Int)) := by omega
    have e : (bts s).drop i = [] := List.drop_eq_nil_of_le (by rw [bts_len]; omega)
    rw [i_LabelOk_l1, decide_eq_false c, cond_false, e]
    unfold i_LabelOk_j0
    cases decide (1 ≤ (s.size : Int)) <;> rfl
  | k + 1, i, fl, hk, hi, hf => by
    obtain ⟨fl, rfl⟩ : ∃ q, fl = q + 1 := ⟨fl - 1, by omega⟩
    have c : (i : Int) < (s.size : Int) := by omega
    obtain ⟨b, hb⟩ := bts_get (s := s) (i := i) (by omega)
    have h := i_LabelOk_l1_eq hs k (i + 1) fl (by omega) (by omega) (by omega)
    rw [i_LabelOk_l1, decide_eq_true c, cond_true, sidx_nat hb, bnd1_mk]
    have e : ((i : Int) + 1) = ((i + 1 : Nat) : Int) := by omega
    have hj : ∀ y : Bool, i_LabelOk_j2 (i : Int) (i_LabelOk_l1 s fl) y = some (!y && (((bts s).drop (i + 1)).all (fun b => chP b.toNat) && (decide (1 ≤ (s.size : Int)) && decide ((s.size : Int) ≤ 12)))) := by
      intro y
      unfold i_LabelOk_j2
      rw [grd_pos (by simp only [i64]; omega), e, h]
      cases y <;> rfl
    simp only [hj]
    rw [drop_all hb]
    have hc : chP b.toNat = !(((decide ((b.toNat : Int) < 97)) || decide (122 < (b.toNat : Int))) && ((decide ((b.toNat : Int) < 48) || decide (57 < (b.toNat : Int))) && ((!decide ((b.toNat : Int) = 45)) && !decide ((b.toNat : Int) = 95)))) := by
      have e1 : decide (97 ≤ (b.toNat : Int)) = !decide ((b.toNat : Int) < 97) := by by_cases c : (b.toNat : Int) < 97 <;> simp [c] <;> omega
      have e2 : decide ((b.toNat : Int) ≤ 122) = !decide (122 < (b.toNat : Int)) := by by_cases c : 122 < (b.toNat : Int) <;> simp [c] <;> omega
      have e3 : decide (48 ≤ (b.toNat : Int)) = !decide ((b.toNat : Int) < 48) := by by_cases c : (b.toNat : Int) < 48 <;> simp [c] <;> omega
      have e4 : decide ((b.toNat : Int) ≤ 57) = !decide (57 < (b.toNat : Int)) := by by_cases c : 57 < (b.toNat : Int) <;> simp [c] <;> omega
      unfold chP
      rw [e1, e2, e3, e4]
      cases decide ((b.toNat : Int) < 97) <;> cases decide (122 < (b.toNat : Int)) <;> cases decide ((b.toNat : Int) < 48) <;> cases decide (57 < (b.toNat : Int)) <;> cases decide ((b.toNat : Int) = 45) <;> cases decide ((b.toNat : Int) = 95) <;> rfl
    rw [hc]
    rw [Bool.and_assoc]
    generalize (((bts s).drop (i + 1)).all (fun b => chP b.toNat) && (decide (1 ≤ (s.size : Int)) && decide ((s.size : Int) ≤ 12))) = R
    cases decide ((b.toNat : Int) < 97) <;> cases decide (122 < (b.toNat : Int)) <;> cases decide ((b.toNat : Int) < 48) <;> cases decide (57 < (b.toNat : Int)) <;> cases decide ((b.toNat : Int) = 45) <;> cases decide ((b.toNat : Int) = 95) <;> rfl

theorem i_LabelOk_eq {s : ByteArray} (hs : s.size ≤ 1048576) : i_LabelOk s = some (labelP s) := by
  have h := i_LabelOk_l1_eq hs s.size 0 fuel0 (by omega) (by omega) (fuel_lt hs)
  unfold i_LabelOk
  exact h

def nameP (s : ByteArray) : Bool := (labels s).all labelP && (decide ((s.size : Int) ≤ 50) && decide (((labels s).length : Int) ≤ 6))

theorem s_NameOk_l1_eq {s : ByteArray} : ∀ (l : List ByteArray) (i : Nat), (∀ x, x ∈ l → x.size ≤ 1048576) → s_NameOk_l1 s (labels s) l i = some (l.all labelP && (decide ((s.size : Int) ≤ 50) && decide (((labels s).length : Int) ≤ 6)))
  | [], i, _ => by
    rw [s_NameOk_l1]; unfold s_NameOk_j0
    cases decide ((s.size : Int) ≤ 50) <;> rfl
  | x :: l, i, h => by
    rw [s_NameOk_l1, s_LabelOk_eq (h x (.head _)), bnd1_mk, s_NameOk_l1_eq l (i + 1) fun y hy => h y (.tail _ hy), List.all_cons]
    cases labelP x <;> rfl

theorem s_NameOk_eq {s : ByteArray} (hs : s.size ≤ 1048576) : s_NameOk s = some (nameP s) := by
  unfold s_NameOk
  rw [s_Labels_eq hs, bnd1_mk, s_NameOk_l1_eq _ _ fun x hx => Nat.le_trans (labels_mem hx) hs]; rfl

theorem slices_IndexFunc_string_l0_eq {g : ByteArray → Option Bool} {p : ByteArray → Bool} : ∀ (l : List ByteArray) (i : Nat), (∀ r, r ∈ l → g r = some (p r)) → ∃ v, slices_IndexFunc_string_l0 g l i = some v ∧ decide (0 ≤ v) = l.any p
  | [], i, _ => ⟨-1, rfl, rfl⟩
  | r :: l, i, h => by
    rw [slices_IndexFunc_string_l0, h r (.head _), bnd1_mk]
    cases c : p r with
    | true => exact ⟨i, rfl, by simp [c]⟩
    | false =>
      obtain ⟨v, h1, h2⟩ := slices_IndexFunc_string_l0_eq l (i + 1) fun q hq => h q (.tail _ hq)
      exact ⟨v, h1, by simp [c, h2]⟩

theorem slices_ContainsFunc_string_eq {g : ByteArray → Option Bool} {p : ByteArray → Bool} {l : List ByteArray} (h : ∀ r, r ∈ l → g r = some (p r)) : slices_ContainsFunc_string l g = some (l.any p) := by
  obtain ⟨v, h1, h2⟩ := slices_IndexFunc_string_l0_eq l 0 h
  unfold slices_ContainsFunc_string slices_IndexFunc_string
  rw [h1, bnd1_mk, h2]

theorem any_not_all {α : Type} (p : α → Bool) : ∀ l : List α, (!l.any fun x => !p x) = l.all p
  | [] => rfl
  | x :: l => by rw [List.any_cons, List.all_cons, ← any_not_all p l]; cases p x <;> simp

theorem i_NameOk_eq {s : ByteArray} (hs : s.size ≤ 1048576) : i_NameOk s = some (nameP s) := by
  unfold i_NameOk nameP
  rw [i_Labels_eq hs, bnd1_mk, slices_ContainsFunc_string_eq (p := fun x => !labelP x) fun r hr => by unfold i_NameOk_1; rw [i_LabelOk_eq (Nat.le_trans (labels_mem hr) hs)]; rfl, bnd1_mk, any_not_all]
  cases decide ((s.size : Int) ≤ 50) <;> cases decide (((labels s).length : Int) ≤ 6) <;> cases (labels s).all labelP <;> rfl

theorem textTail {s : ByteArray} {i : Nat} (h : ¬ ((i : Int) < (s.size : Int))) : (bts s).drop i = [] := List.drop_eq_nil_of_le (by rw [bts_len]; omega)

def txP (n : Int) : Bool := decide (33 ≤ n) && decide (n ≤ 126)

def textP (s : ByteArray) : Bool := ((bts s).all fun b => txP b.toNat) && decide ((s.size : Int) ≤ 12)

theorem s_l5Text_l1_eq {s : ByteArray} (hs : s.size ≤ 1048576) : ∀ (k i fl : Nat), s.size - i = k → i ≤ s.size → k < fl → s_l5Text_l1 s fl (i : Int) = some (((bts s).drop i).all (fun b => txP b.toNat) && decide ((s.size : Int) ≤ 12))
  | 0, i, fl, hk, hi, hf => by
    obtain ⟨fl, rfl⟩ : ∃ q, fl = q + 1 := ⟨fl - 1, by omega⟩
    have c : ¬ ((i : Int) < (s.size : Int)) := by omega
    rw [s_l5Text_l1, decide_eq_false c, cond_false, textTail c]
    rfl
  | k + 1, i, fl, hk, hi, hf => by
    obtain ⟨fl, rfl⟩ : ∃ q, fl = q + 1 := ⟨fl - 1, by omega⟩
    have c : (i : Int) < (s.size : Int) := by omega
    obtain ⟨b, hb⟩ := bts_get (s := s) (i := i) (by omega)
    have hl := b.toNat_lt
    have h := s_l5Text_l1_eq hs k (i + 1) fl (by omega) (by omega) (by omega)
    have e : ((i : Int) + 1) = ((i + 1 : Nat) : Int) := by omega
    rw [s_l5Text_l1, decide_eq_true c, cond_true, sidx_nat hb, bnd1_mk, wrap_id (by omega), s_l1In_eq, bnd1_mk, grd_pos (by simp only [i64]; omega), e, h, drop_all hb, Bool.and_assoc]
    unfold txP
    cases decide (33 ≤ (b.toNat : Int)) && decide ((b.toNat : Int) ≤ 126) <;> rfl

theorem s_l5Text_eq {s : ByteArray} (hs : s.size ≤ 1048576) : s_l5Text s = some (textP s) := by
  have h := s_l5Text_l1_eq hs s.size 0 fuel0 (by omega) (by omega) (fuel_lt hs)
  unfold s_l5Text
  exact h

theorem i_isText_l1_eq {s : ByteArray} (hs : s.size ≤ 1048576) : ∀ (k i fl : Nat), s.size - i = k → i ≤ s.size → k < fl → i_isText_l1 s fl (i : Int) = some (((bts s).drop i).all (fun b => txP b.toNat) && decide ((s.size : Int) ≤ 12))
  | 0, i, fl, hk, hi, hf => by
    obtain ⟨fl, rfl⟩ : ∃ q, fl = q + 1 := ⟨fl - 1, by omega⟩
    have c : ¬ ((i : Int) < (s.size : Int)) := by omega
    rw [i_isText_l1, decide_eq_false c, cond_false, textTail c]
    rfl
  | k + 1, i, fl, hk, hi, hf => by
    obtain ⟨fl, rfl⟩ : ∃ q, fl = q + 1 := ⟨fl - 1, by omega⟩
    have c : (i : Int) < (s.size : Int) := by omega
    obtain ⟨b, hb⟩ := bts_get (s := s) (i := i) (by omega)
    have h := i_isText_l1_eq hs k (i + 1) fl (by omega) (by omega) (by omega)
    have e : ((i : Int) + 1) = ((i + 1 : Nat) : Int) := by omega
    have hj : ∀ y : Bool, i_isText_j2 (i : Int) (i_isText_l1 s fl) y = some (!y && (((bts s).drop (i + 1)).all (fun b => txP b.toNat) && decide ((s.size : Int) ≤ 12))) := by
      intro y
      unfold i_isText_j2
      rw [grd_pos (by simp only [i64]; omega), e, h]
      cases y <;> rfl
    rw [i_isText_l1, decide_eq_true c, cond_true, sidx_nat hb, bnd1_mk, bnd1_mk, hj, hj, drop_all hb, Bool.and_assoc]
    have e1 : decide (33 ≤ (b.toNat : Int)) = !decide ((b.toNat : Int) < 33) := by by_cases c : (b.toNat : Int) < 33 <;> simp [c] <;> omega
    have e2 : decide ((b.toNat : Int) ≤ 126) = !decide (126 < (b.toNat : Int)) := by by_cases c : 126 < (b.toNat : Int) <;> simp [c] <;> omega
    unfold txP
    rw [e1, e2]
    generalize (((bts s).drop (i + 1)).all (fun b => decide (33 ≤ (b.toNat : Int)) && decide ((b.toNat : Int) ≤ 126)) && decide ((s.size : Int) ≤ 12)) = R
    cases decide ((b.toNat : Int) < 33) <;> cases decide (126 < (b.toNat : Int)) <;> rfl

theorem i_isText_eq {s : ByteArray} (hs : s.size ≤ 1048576) : i_isText s = some (textP s) := by
  have h := i_isText_l1_eq hs s.size 0 fuel0 (by omega) (by omega) (fuel_lt hs)
  unfold i_isText
  exact h

def inP (a b c : Int) : Bool := decide (b ≤ a) && decide (a ≤ c)

theorem i_isTtl_eq {a : Int} : i_isTtl a = some (inP a 0 100000) := by
  unfold i_isTtl inP; cases decide (0 ≤ a) <;> rfl

theorem i_isFour_eq {a : Int} : i_isFour a = some (inP a 0 2147483647) := by
  unfold i_isFour inP; cases decide (0 ≤ a) <;> rfl

def nilP (s : ByteArray) : Bool := decide (s = (⟨#[]⟩ : ByteArray))

def recP (r : Rec) : Bool :=
  nameP r.name && (inP r.ttl 0 100000 && (bif decide (r.ty = 1) then inP r.n 0 2147483647 && (nilP r.host && nilP r.text) else (bif decide (r.ty = 2) || decide (r.ty = 5) then decide (r.n = 0) && (nameP r.host && nilP r.text)
    else (bif decide (r.ty = 6) then inP r.n 0 100000 && (nameP r.host && nilP r.text) else decide (r.ty = 16) && (decide (r.n = 0) && (nilP r.host && textP r.text))))))

theorem s_RecordOk_eq {r : Rec} (h : r.sm) : s_RecordOk r = some (recP r) := by
  obtain ⟨h1, h2, h3⟩ := h
  unfold s_RecordOk s_RecordOk_j0 s_RecordOk_j1 recP nilP
  rw [s_NameOk_eq h1, bnd1_mk, s_l1In_eq, bnd1_mk, s_l1In_eq, bnd1_mk, s_l1In_eq, bnd1_mk, s_NameOk_eq h2, bnd1_mk, s_l5Text_eq h3, bnd1_mk]
  unfold inP
  generalize (decide (0 ≤ r.ttl) && decide (r.ttl ≤ 100000)) = a
  generalize (decide (0 ≤ r.n) && decide (r.n ≤ 2147483647)) = b
  generalize (decide (0 ≤ r.n) && decide (r.n ≤ 100000)) = d
  cases nameP r.name <;> cases a <;> cases decide (r.ty = 1) <;> cases decide (r.ty = 2) <;> cases decide (r.ty = 5) <;> cases decide (r.ty = 6) <;> cases decide (r.ty = 16) <;> try rfl
  all_goals (cases b <;> cases d <;> cases decide (r.n = 0) <;> cases nameP r.host <;> cases decide (r.host = (⟨#[]⟩ : ByteArray)) <;> rfl)

theorem i_RecordOk_eq {r : Rec} (h : r.sm) : i_RecordOk r = some (recP r) := by
  obtain ⟨h1, h2, h3⟩ := h
  unfold i_RecordOk i_RecordOk_j0 i_RecordOk_j1 recP nilP
  rw [i_NameOk_eq h1, bnd1_mk, i_isTtl_eq, bnd1_mk, i_isFour_eq, bnd1_mk, i_isTtl_eq, bnd1_mk, i_NameOk_eq h2, bnd1_mk, i_isText_eq h3, bnd1_mk]
  generalize inP r.ttl 0 100000 = a
  generalize inP r.n 0 2147483647 = b
  generalize inP r.n 0 100000 = d
  cases nameP r.name <;> cases a <;> cases decide (r.ty = 1) <;> cases decide (r.ty = 2) <;> cases decide (r.ty = 5) <;> cases decide (r.ty = 6) <;> cases decide (r.ty = 16) <;> try rfl
  all_goals (cases b <;> cases d <;> cases decide (r.n = 0) <;> cases nameP r.host <;> cases decide (r.host = (⟨#[]⟩ : ByteArray)) <;> rfl)

def listP (k : Int) (l : List Rec) : Bool := l.all recP && decide ((l.length : Int) ≤ k)

theorem i_allOk_eq {l : List Rec} {k : Int} (h : smL l) : i_allOk l k = some (listP k l) := by
  unfold i_allOk listP
  rw [slices_ContainsFunc_Record_eq (p := fun r => !recP r) fun r hr => by unfold i_allOk_1; rw [i_RecordOk_eq (h.2 r hr)]; rfl, bnd1_mk, any_not_all]
  cases decide ((l.length : Int) ≤ k) <;> cases l.all recP <;> rfl

def Cur.inv (c : Cur) : Prop := 0 ≤ c.i ∧ c.b.length ≤ 1048576

theorem iand_255 (x : Int) : 0 ≤ iand .i64 x 255 ∧ iand .i64 x 255 ≤ 255 := by
  unfold iand
  have h : (BitVec.ofInt (IntKind.i64).bits x &&& BitVec.ofInt (IntKind.i64).bits 255).toNat ≤ 255 := by
    rw [BitVec.toNat_and]; exact Nat.le_trans Nat.and_le_right (by decide)
  generalize (BitVec.ofInt (IntKind.i64).bits x &&& BitVec.ofInt (IntKind.i64).bits 255).toNat = n at h
  rw [wrap_id (by omega)]; omega

theorem idx_ok {α : Type} {l : List α} {i : Int} (h0 : 0 ≤ i) (h1 : i < l.length) : ∃ x, idx l i = some x ∧ x ∈ l := by
  have h2 : i.toNat < l.length := by omega
  exact ⟨l[i.toNat], by unfold idx; rw [if_pos h0, List.getElem?_eq_getElem h2], List.getElem_mem h2⟩

theorem s_l1Byte_p {c : Cur} (h : c.inv) : ∃ x d, s_l1Byte c = some (x, d) ∧ d.inv ∧ 0 ≤ x ∧ x ≤ 255 := by
  obtain ⟨h1, h2⟩ := h
  unfold s_l1Byte
  by_cases p : c.i < (c.b.length : Int)
  · obtain ⟨y, hy, -⟩ := idx_ok h1 p
    rw [decide_eq_true p, cond_true, hy, bnd1_mk]
    exact ⟨_, _, rfl, ⟨by show 0 ≤ IntKind.i64.wrap (c.i + 1); rw [wrap_id (by omega)]; omega, h2⟩, (iand_255 _).1, (iand_255 _).2⟩
  · rw [decide_eq_false p, cond_false]
    exact ⟨_, _, rfl, ⟨h1, h2⟩, (iand_255 _).1, (iand_255 _).2⟩

theorem s_l1Below_p {c : Cur} {n : Int} (h : c.inv) (h1 : 0 < n) (h2 : n ≤ 256) : ∃ x d, s_l1Below c n = some (x, d) ∧ d.inv ∧ 0 ≤ x ∧ x < n := by
  obtain ⟨x, d, e, hd, hx, hy⟩ := s_l1Byte_p h
  have c1 : ¬ (n ≤ 0) := by omega
  unfold s_l1Below
  rw [decide_eq_false c1, cond_false, decide_eq_true h2, cond_true, e, bnd2_mk, grd_pos (by omega)]
  exact ⟨_, _, rfl, hd, Int.tmod_nonneg n hx, Int.tmod_lt_of_pos x h1⟩

theorem s_l1Once_p {c : Cur} {n : Int} (h : c.inv) (h1 : 0 < n) (h2 : n ≤ 256) : ∃ x d, s_l1Once c n = some (x, d) ∧ d.inv := by
  obtain ⟨x, d, e, hd, -, -⟩ := s_l1Below_p h h1 h2
  unfold s_l1Once
  rw [e, bnd2_mk]
  exact ⟨_, _, rfl, hd⟩

theorem s_l1Str_p {c : Cur} {l : List ByteArray} (h : c.inv) (h1 : 0 < l.length) (h2 : l.length ≤ 256) : ∃ x d, s_l1Str c l = some (x, d) ∧ d.inv ∧ x ∈ l := by
  obtain ⟨x, d, e, hd, hx, hy⟩ := s_l1Below_p (n := (l.length : Int)) h (by omega) (by omega)
  obtain ⟨y, e2, hm⟩ := idx_ok hx hy
  unfold s_l1Str
  rw [e, bnd2_mk, e2, bnd1_mk]
  exact ⟨_, _, rfl, hd, hm⟩

theorem s_l1Int_p {c : Cur} {l : List Int} (h : c.inv) (h1 : 0 < l.length) (h2 : l.length ≤ 256) : ∃ x d, s_l1Int c l = some (x, d) ∧ d.inv ∧ x ∈ l := by
  obtain ⟨x, d, e, hd, hx, hy⟩ := s_l1Below_p (n := (l.length : Int)) h (by omega) (by omega)
  obtain ⟨y, e2, hm⟩ := idx_ok hx hy
  unfold s_l1Int
  rw [e, bnd2_mk, e2, bnd1_mk]
  exact ⟨_, _, rfl, hd, hm⟩

theorem small_of {l : List ByteArray} {x : ByteArray} (h : (l.all fun y => Nat.ble y.size 1048576) = true) (hx : x ∈ l) : x.size ≤ 1048576 := Nat.le_of_ble_eq_true (List.all_eq_true.1 h x hx)

theorem s_l3Name_p {c : Cur} (h : c.inv) : ∃ x d, s_l3Name c = some (x, d) ∧ d.inv ∧ x.size ≤ 1048576 := by
  unfold s_l3Name
  refine (fun {l : List ByteArray} (h1 : 0 < l.length) (h2 : l.length ≤ 256) (h3 : (l.all fun y => Nat.ble y.size 1048576) = true) => ?_ : ∀ {l : List ByteArray}, 0 < l.length → l.length ≤ 256 → (l.all fun y => Nat.ble y.size 1048576) = true → ∃ x d, bnd2 (s_l1Str c l) (fun x1 x2 => some (x1, x2)) = some (x, d) ∧ d.inv ∧ x.size ≤ 1048576) (by decide) (by decide) rfl
  obtain ⟨x, d, e, hd, hm⟩ := s_l1Str_p h h1 h2
  rw [e, bnd2_mk]
  exact ⟨_, _, rfl, hd, small_of h3 hm⟩

theorem s_l5Type_p {c : Cur} (h : c.inv) : ∃ x d, s_l5Type c = some (x, d) ∧ d.inv ∧ x ∈ [1, 1, 1, 2, 2, 5, 6, 16] := by
  obtain ⟨x, d, e, hd, hm⟩ := s_l1Int_p (l := [1, 1, 1, 2, 2, 5, 6, 16]) h (by decide) (by decide)
  unfold s_l5Type
  rw [e, bnd2_mk]
  exact ⟨_, _, rfl, hd, hm⟩

theorem size_nil : (⟨#[]⟩ : ByteArray).size ≤ 1048576 := by decide

theorem s_l5Draw_j0_p {x : ByteArray} {k t : Int} {c : Cur} {b : Bool} (h : c.inv) (hx : x.size ≤ 1048576) : ∃ r d, s_l5Draw_j0 x k t c b = some (r, d) ∧ d.inv ∧ r.sm := by
  unfold s_l5Draw_j0
  obtain ⟨y, d, e, hd, hy⟩ := s_l3Name_p h
  obtain ⟨z, d2, e2, hd2, -⟩ := s_l1Int_p (l := [0, 5, 60]) hd (by decide) (by decide)
  obtain ⟨w, d3, e3, hd3, hw⟩ := s_l1Str_p (l := [(⟨#[]⟩ : ByteArray), (⟨#[104, 105]⟩ : ByteArray), (⟨#[116, 119, 101, 108, 118, 101, 98, 121, 116, 101, 115, 33]⟩ : ByteArray)]) h (by decide) (by decide)
  have hw2 := small_of rfl hw
  cases b with
  | true => rw [cond_true, e, bnd2_mk]; exact ⟨_, _, rfl, hd, hx, hy, size_nil⟩
  | false =>
    rw [cond_false]
    cases decide (k = 6) with
    | true => rw [cond_true, e, bnd2_mk, e2, bnd2_mk]; exact ⟨_, _, rfl, hd2, hx, hy, size_nil⟩
    | false =>
      rw [cond_false]
      cases decide (k = 16) with
      | true => rw [cond_true, e3, bnd2_mk]; exact ⟨_, _, rfl, hd3, hx, size_nil, hw2⟩
      | false => exact ⟨_, _, rfl, h, hx, size_nil, size_nil⟩

theorem s_l5Draw_p {c : Cur} (h : c.inv) : ∃ r d, s_l5Draw c = some (r, d) ∧ d.inv ∧ r.sm := by
  unfold s_l5Draw
  obtain ⟨x, d1, e1, h1, hx⟩ := s_l3Name_p h
  obtain ⟨k, d2, e2, h2, -⟩ := s_l5Type_p h1
  obtain ⟨t, d3, e3, h3, -⟩ := s_l1Int_p (l := [0, 1, 5, 60, 300, 100000]) h2 (by decide) (by decide)
  obtain ⟨n, d4, e4, h4, hn, hn2⟩ := s_l1Below_p (n := 9) h3 (by omega) (by omega)
  rw [e1, bnd2_mk, e2, bnd2_mk, e3, bnd2_mk]
  cases decide (k = 1) with
  | true => rw [cond_true, e4, bnd2_mk, grd_pos (by simp only [i64]; omega)]; exact ⟨_, _, rfl, h4, hx, size_nil, size_nil⟩
  | false =>
    rw [cond_false]
    cases decide (k = 2) with
    | true => rw [cond_true]; exact s_l5Draw_j0_p h3 hx
    | false => rw [cond_false]; exact s_l5Draw_j0_p h3 hx

theorem s_l1New_l1_p {b : List Int} (hb : b.length ≤ 1048576) : ∀ (k fl i : Nat) (h : Int), b.length - i = k → i ≤ b.length → k < fl → ∃ c, s_l1New_l1 b fl h (i : Int) = some c ∧ c.inv
  | 0, fl, i, h, hk, hi, hf => by
    obtain ⟨fl, rfl⟩ : ∃ q, fl = q + 1 := ⟨fl - 1, by omega⟩
    have c1 : ¬ ((i : Int) < (b.length : Int)) := by omega
    rw [s_l1New_l1, decide_eq_false c1, cond_false]
    exact ⟨_, rfl, Int.le_refl 0, hb⟩
  | k + 1, fl, i, h, hk, hi, hf => by
    obtain ⟨fl, rfl⟩ : ∃ q, fl = q + 1 := ⟨fl - 1, by omega⟩
    have c1 : (i : Int) < (b.length : Int) := by omega
    rw [s_l1New_l1, decide_eq_true c1, cond_true]
    unfold s_l1New_j2
    cases decide ((i : Int) < 4000) with
    | false => exact ⟨_, rfl, Int.le_refl 0, hb⟩
    | true =>
      obtain ⟨x, hx, -⟩ := idx_ok (l := b) (i := (i : Int)) (by omega) c1
      have e : IntKind.i64.wrap ((i : Int) + 1) = ((i + 1 : Nat) : Int) := by rw [wrap_id (by omega)]; omega
      rw [cond_true, hx, bnd1_mk, e]
      exact s_l1New_l1_p hb k fl (i + 1) _ (by omega) (by omega) (by omega)

theorem s_l1New_p {b : List Int} (hb : b.length ≤ 1048576) : ∃ c, s_l1New b = some c ∧ c.inv := s_l1New_l1_p hb b.length fuel0 0 _ (by omega) (by omega) (fuel_lt hb)

theorem w_sameRecs_l0_self : ∀ (t pre : List Rec), w_sameRecs_l0 (pre ++ t) t pre.length = some true
  | [], pre => rfl
  | r :: t, pre => by
    have h := w_sameRecs_l0_self t (pre ++ [r])
    rw [w_sameRecs_l0, idx_nat, get_app, bnd1_mk, rec_ext, decide_eq_true rfl, Bool.not_true, cond_false]
    simpa using h

theorem w_sameRecs_self {l : List Rec} : w_sameRecs l l = some true := by
  unfold w_sameRecs
  rw [decide_eq_true rfl, Bool.not_true, cond_false]
  exact w_sameRecs_l0_self l []

theorem bL_irr : ∀ x : List UInt8, Op.bytesLess x x = false
  | [] => rfl
  | a :: x => by simp [Op.bytesLess, bL_irr x, UInt8.lt_irrefl]

theorem bL_trans : ∀ x y z : List UInt8, Op.bytesLess x y = true → Op.bytesLess y z = true → Op.bytesLess x z = true
  | [], [], _, h, _ => by simp [Op.bytesLess] at h
  | [], _ :: _, [], _, h => by simp [Op.bytesLess] at h
  | [], _ :: _, _ :: _, _, _ => rfl
  | _ :: _, [], _, h, _ => by simp [Op.bytesLess] at h
  | _ :: _, _ :: _, [], _, h => by simp [Op.bytesLess] at h
  | a :: x, b :: y, c :: z, h, k => by
    simp only [Op.bytesLess, Bool.or_eq_true, decide_eq_true_eq, Bool.and_eq_true, beq_iff_eq] at h k ⊢
    rcases h with h | ⟨h, h'⟩ <;> rcases k with k | ⟨k, k'⟩
    · exact .inl (UInt8.lt_trans h k)
    · exact .inl (k ▸ h)
    · exact .inl (h ▸ k)
    · exact .inr ⟨h.trans k, bL_trans x y z h' k'⟩

theorem bL_tot : ∀ x y : List UInt8, x ≠ y → Op.bytesLess x y = true ∨ Op.bytesLess y x = true
  | [], [], h => absurd rfl h
  | [], _ :: _, _ => .inl rfl
  | _ :: _, [], _ => .inr rfl
  | a :: x, b :: y, h => by
    simp only [Op.bytesLess, Bool.or_eq_true, decide_eq_true_eq, Bool.and_eq_true, beq_iff_eq]
    by_cases c : a = b
    · subst c
      rcases bL_tot x y (fun e => h (by rw [e])) with k | k
      · exact .inl (.inr ⟨rfl, k⟩)
      · exact .inr (.inr ⟨rfl, k⟩)
    · have : a < b ∨ b < a := by
        have h1 : a.toNat ≠ b.toNat := fun e => c (UInt8.toNat_inj.1 e)
        rw [UInt8.lt_iff_toNat_lt, UInt8.lt_iff_toNat_lt]; omega
      rcases this with k | k
      · exact .inl (.inl k)
      · exact .inr (.inl k)

def bl (a b : ByteArray) : Bool := Op.bytesLess (bts a) (bts b)

theorem bl_eq {a b : ByteArray} : Op.bytesLess a.toList b.toList = bl a b := by unfold bl bts; rw [ByteArray.toList_eq, ByteArray.toList_eq]

theorem bl_irr (a : ByteArray) : bl a a = false := bL_irr _

theorem bl_trans (a b c : ByteArray) (h : bl a b = true) (k : bl b c = true) : bl a c = true := bL_trans _ _ _ h k

theorem bl_tot (a b : ByteArray) (h : a ≠ b) : bl a b = true ∨ bl b a = true := bL_tot _ _ (fun e => h (bts_inj.1 e))

def lexN : List ByteArray → List ByteArray → Bool
  | _, [] => false
  | [], _ :: _ => true
  | x :: xs, y :: ys => if x = y then lexN xs ys else bl x y

theorem lexN_irr : ∀ x : List ByteArray, lexN x x = false
  | [] => rfl
  | a :: x => by simp [lexN, lexN_irr x]

theorem lexN_trans : ∀ x y z : List ByteArray, lexN x y = true → lexN y z = true → lexN x z = true
  | [], [], _, h, _ => by simp [lexN] at h
  | [], _ :: _, [], _, h => by simp [lexN] at h
  | [], _ :: _, _ :: _, _, _ => rfl
  | _ :: _, [], _, h, _ => by simp [lexN] at h
  | _ :: _, _ :: _, [], _, h => by simp [lexN] at h
  | a :: x, b :: y, c :: z, h, k => by
    unfold lexN at h k ⊢
    by_cases e1 : a = b
    · subst e1
      rw [if_pos rfl] at h
      by_cases e2 : a = c
      · rw [if_pos e2] at k ⊢; exact lexN_trans x y z h k
      · rw [if_neg e2] at k ⊢; exact k
    · rw [if_neg e1] at h
      by_cases e2 : b = c
      · subst e2; rw [if_neg e1]; exact h
      · rw [if_neg e2] at k
        have h3 := bl_trans a b c h k
        by_cases e3 : a = c
        · subst e3; rw [bl_irr] at h3; cases h3
        · rw [if_neg e3]; exact h3

theorem lexN_tot : ∀ x y : List ByteArray, x ≠ y → lexN x y = true ∨ lexN y x = true
  | [], [], h => absurd rfl h
  | [], _ :: _, _ => .inl rfl
  | _ :: _, [], _ => .inr rfl
  | a :: x, b :: y, h => by
    unfold lexN
    by_cases c : a = b
    · subst c
      rw [if_pos rfl, if_pos rfl]; exact lexN_tot x y (fun e => h (by rw [e]))
    · rw [if_neg c, if_neg (fun e => c e.symm)]; exact bl_tot a b c

theorem lexN_pre : ∀ (x z : List ByteArray), z ≠ [] → lexN x (x ++ z) = true
  | [], z, h => by cases z with | nil => exact absurd rfl h | cons a b => rfl
  | a :: x, z, h => by rw [List.cons_append, lexN, if_pos rfl]; exact lexN_pre x z h

def lessN (a b : ByteArray) : Bool := lexN (labels a).reverse (labels b).reverse

def unseg : List (List UInt8) → List UInt8
  | [] => []
  | [x] => x
  | x :: y :: t => x ++ 46 :: unseg (y :: t)

theorem unseg_cons {x : List UInt8} {t : List (List UInt8)} (h : t ≠ []) : unseg (x :: t) = x ++ 46 :: unseg t := by cases t with | nil => exact absurd rfl h | cons y t => rfl

theorem segs_ne (cur l : List UInt8) : segs cur l ≠ [] := fun h => by have := segs_pos cur l; rw [h] at this; simp at this

theorem unseg_segs : ∀ (l cur : List UInt8), unseg (segs cur l) = cur ++ l
  | [], cur => by simp [segs, unseg]
  | b :: l, cur => by
    unfold segs
    by_cases c : b = 46
    · subst c; simp only [if_true]; rw [unseg_cons (segs_ne _ _), unseg_segs l []]; simp
    · simp only [c, if_false]; rw [unseg_segs l (cur ++ [b])]; simp

theorem mkB_inj {a b : List UInt8} (h : mkB a = mkB b) : a = b := by rw [← bts_mkB a, h, bts_mkB]

theorem map_mkB_inj : ∀ {a b : List (List UInt8)}, a.map mkB = b.map mkB → a = b
  | [], [], _ => rfl
  | [], _ :: _, h => by simp at h
  | _ :: _, [], h => by simp at h
  | x :: a, y :: b, h => by
    simp only [List.map_cons, List.cons.injEq] at h
    rw [mkB_inj h.1, map_mkB_inj h.2]

theorem labels_inj {a b : ByteArray} (h : labels a = labels b) : a = b := by
  unfold labels at h
  by_cases ca : bts a = [] <;> by_cases cb : bts b = []
  · exact bts_inj.1 (ca.trans cb.symm)
  · rw [if_pos ca, if_neg cb] at h
    exact absurd (List.map_eq_nil_iff.1 h.symm) (segs_ne _ _)
  · rw [if_neg ca, if_pos cb] at h
    exact absurd (List.map_eq_nil_iff.1 h) (segs_ne _ _)
  · rw [if_neg ca, if_neg cb] at h
    have h1 := map_mkB_inj h
    have h2 := congrArg unseg h1
    rw [unseg_segs, unseg_segs] at h2
    exact bts_inj.1 h2

theorem lessN_irr (a : ByteArray) : lessN a a = false := lexN_irr _

theorem lessN_trans (a b c : ByteArray) (h : lessN a b = true) (k : lessN b c = true) : lessN a c = true := lexN_trans _ _ _ h k

theorem lessN_tot (a b : ByteArray) (h : a ≠ b) : lessN a b = true ∨ lessN b a = true := lexN_tot _ _ (fun e => h (labels_inj (List.reverse_inj.1 e)))

theorem lessN_under {a b : ByteArray} (h : under a b = true) (hne : a ≠ b) : lessN b a = true := by
  unfold under at h
  simp only [Bool.and_eq_true, decide_eq_true_eq] at h
  have e : labels a = (labels a).take ((labels a).length - (labels b).length) ++ labels b := by
    rw [← h.2, List.length_drop]
    have : (labels a).length - ((labels a).length - ((labels a).length - (labels b).length)) = (labels a).length - (labels b).length := by omega
    rw [this, List.take_append_drop]
  unfold lessN
  rw [e, List.reverse_append]
  refine lexN_pre _ _ fun q => hne (labels_inj ?_)
  rw [List.reverse_eq_nil_iff] at q
  rw [q, List.nil_append] at e; exact e

theorem slices_Reverse_string_l0_eq : ∀ (k fl : Nat) (pre mid suf : List ByteArray), mid.length ≤ k → k < fl → pre.length + mid.length ≤ 2097153 →
    slices_Reverse_string_l0 fl (pre ++ mid ++ suf) (pre.length : Int) ((pre.length : Int) + (mid.length : Int) - 1) = some (pre ++ mid.reverse ++ suf)
  | k, 0, _, _, _, _, h, _ => by omega
  | k, fl + 1, pre, mid, suf, hk, hfl, hl => by
    rw [slices_Reverse_string_l0]
    match mid, hk with
    | [], _ => simp [show ¬ ((pre.length : Int) < (pre.length : Int) - 1) by omega]
    | [a], _ => simp
    | a :: b :: t, hk =>
      obtain ⟨m, c, hm⟩ : ∃ m c, b :: t = m ++ [c] := ⟨(b :: t).dropLast, (b :: t).getLast (by simp), (List.dropLast_concat_getLast (by simp)).symm⟩
      rw [hm] at hk hl ⊢
      simp only [List.length_cons, List.length_append, List.length_nil] at hk hl ⊢
      have ej : ((pre.length : Int) + ((m.length + (0 + 1) + 1 : Nat) : Int) - 1) = ((pre.length + 1 + m.length : Nat) : Int) := by omega
      rw [ej]
      have e1 : pre ++ a :: (m ++ [c]) ++ suf = (pre ++ a :: m) ++ c :: suf := by simp
      have e2 : pre ++ a :: (m ++ [c]) ++ suf = pre ++ a :: (m ++ c :: suf) := by simp
      have hlt : ((pre.length : Int) < ((pre.length + 1 + m.length : Nat) : Int)) := by omega
      simp only [hlt, decide_true, cond_true, idx_nat, Int.toNat_natCast]
      have g1 : (pre ++ a :: (m ++ [c]) ++ suf)[pre.length + 1 + m.length]? = some c := by
        rw [e1, show pre.length + 1 + m.length = (pre ++ a :: m).length by simp; omega, get_app]
      have g2 : (pre ++ a :: (m ++ [c]) ++ suf)[pre.length]? = some a := by rw [e2, get_app]
      have s1 : (pre ++ a :: (m ++ [c]) ++ suf).set pre.length c = (pre ++ c :: m) ++ c :: suf := by rw [e2, set_app]; simp
      have g3 : ((pre ++ c :: m) ++ c :: suf)[pre.length + 1 + m.length]? = some c := by
        rw [show pre.length + 1 + m.length = (pre ++ c :: m).length by simp; omega, get_app]
      have s2 : ((pre ++ c :: m) ++ c :: suf).set (pre.length + 1 + m.length) a = (pre ++ [c]) ++ m ++ (a :: suf) := by
        rw [show pre.length + 1 + m.length = (pre ++ c :: m).length by simp; omega, set_app]; simp
      rw [g1, bnd1_mk, g2, bnd1_mk, s1, g3, bnd1_mk, s2, grd_pos (by simp only [i64]; omega), grd_pos (by simp only [i64]; omega)]
      have ih := slices_Reverse_string_l0_eq (k - 1) fl (pre ++ [c]) m (a :: suf) (by omega) (by omega) (by simp; omega)
      have ei : ((pre ++ [c]).length : Int) = (pre.length : Int) + 1 := by simp
      rw [ei] at ih
      have ej2 : ((pre.length + 1 + m.length : Nat) : Int) - 1 = (pre.length : Int) + 1 + (m.length : Int) - 1 := by omega
      rw [ej2, ih]
      simp

theorem slices_Reverse_string_eq {l : List ByteArray} (h : l.length ≤ 2097152) : slices_Reverse_string l = some l.reverse := by
  unfold slices_Reverse_string
  rw [grd_pos (by simp only [i64]; omega)]
  have := slices_Reverse_string_l0_eq l.length fuel0 [] l [] (Nat.le_refl _) (by unfold fuel0; omega) (by simp; omega)
  simpa using this

theorem cmp_Compare_string_eq {a b : ByteArray} : cmp_Compare_string a b = some (bif bl a b then -1 else (bif decide (a = b) then 0 else 1)) := by
  unfold cmp_Compare_string cmp_isNaN_string
  rw [bl_eq]
  have e : (a.toList == b.toList) = decide (a = b) := by
    rw [ByteArray.toList_eq, ByteArray.toList_eq]
    by_cases c : a = b
    · subst c; simp
    · have : ¬ a.data = b.data := fun h => c (bts_inj.1 (congrArg Array.toList h))
      simp [c, this]
  rw [e]
  by_cases c : a = b
  · subst c; simp [bl_irr]
  · cases bl a b <;> simp [c]

theorem slices_Compare_string_l1_eq (x y : List ByteArray) : ∀ (l q pre pre' : List ByteArray), x = pre ++ l → y = pre' ++ q → pre.length = pre'.length → ∃ c, slices_Compare_string_l1 x y l pre.length = some c ∧ decide (c < 0) = lexN l q
  | [], q, pre, pre', hx, hy, hl => by
    unfold slices_Compare_string_l1 slices_Compare_string_j0
    subst hx hy
    cases q with
    | nil => exact ⟨0, by simp [hl], rfl⟩
    | cons b q =>
      have h1 : (((pre ++ []).length : Nat) : Int) < (((pre' ++ b :: q).length : Nat) : Int) := by simp only [List.length_append, List.length_cons, List.length_nil]; omega
      exact ⟨-1, by simp only [h1, decide_true, cond_true], rfl⟩
  | a :: l, q, pre, pre', hx, hy, hl => by
    rw [slices_Compare_string_l1]
    cases q with
    | nil =>
      subst hx hy
      exact ⟨1, by simp [hl], rfl⟩
    | cons b q =>
      have h1 : ¬ ((y.length : Int) ≤ (pre.length : Int)) := by subst hy; simp; omega
      have h2 : y[pre.length]? = some b := by subst hy; rw [hl, get_app]
      simp only [h1, decide_false, cond_false, idx_nat, h2, bnd1_mk, cmp_Compare_string_eq]
      obtain ⟨c, h3, h4⟩ := slices_Compare_string_l1_eq x y l q (pre ++ [a]) (pre' ++ [b]) (by simp [hx]) (by simp [hy]) (by simp [hl])
      rw [show (pre ++ [a]).length = pre.length + 1 by simp] at h3
      by_cases c' : a = b
      · subst c'; exact ⟨c, by simp [bl_irr, h3], by simp [lexN, h4]⟩
      · cases hb : bl a b with
        | true => exact ⟨-1, by simp, by simp [lexN, c', hb]⟩
        | false => exact ⟨1, by simp [c'], by simp [lexN, c', hb]⟩

theorem i_LessName_eq {a b : ByteArray} (ha : a.size ≤ 1048576) (hb : b.size ≤ 1048576) : i_LessName a b = some (lessN a b) := by
  have h1 := labels_len a
  have h2 := labels_len b
  unfold i_LessName slices_Compare_string
  rw [i_Labels_eq ha, bnd1_mk, i_Labels_eq hb, bnd1_mk, slices_Reverse_string_eq (by omega), bnd1_mk, grd_pos (List.length_reverse ..), slices_Reverse_string_eq (by omega), bnd1_mk, grd_pos (List.length_reverse ..)]
  obtain ⟨c, h3, h4⟩ := slices_Compare_string_l1_eq (labels a).reverse (labels b).reverse (labels a).reverse (labels b).reverse [] [] rfl rfl rfl
  rw [show ([] : List ByteArray).length = 0 from rfl] at h3
  rw [h3, bnd1_mk, h4]; rfl

theorem s_LessName_l1_eq (x y : List ByteArray) (hx : x.length ≤ 2097152) (hy : y.length ≤ 2097152) (fl : Nat) : ∀ (k i : Nat), x.length - i = k → i ≤ x.length → i ≤ y.length → k + 1 < fl → s_LessName_l1 x y fl ((i : Int) + 1) = some (lexN (x.reverse.drop i) (y.reverse.drop i)) := by
  induction fl with
  | zero => intro k i _ _ _ h; omega
  | succ fl IH =>
    intro k i hk hi hi' hfl
    rw [s_LessName_l1]
    unfold s_LessName_j2 s_LessName_j0
    by_cases c1 : i = x.length
    · have e1 : x.reverse.drop i = [] := List.drop_eq_nil_of_le (by simp; omega)
      have h1 : ¬ ((i : Int) + 1 ≤ (x.length : Int)) := by omega
      simp only [h1, decide_false, cond_false, e1]
      by_cases c2 : i = y.length
      · have e2 : y.reverse.drop i = [] := List.drop_eq_nil_of_le (by simp; omega)
        have h2 : ¬ ((x.length : Int) < (y.length : Int)) := by omega
        simp [e2, lexN, h2]
      · have hlt : i < y.reverse.length := by simp; omega
        rw [List.drop_eq_getElem_cons hlt]
        have h2 : ((x.length : Int) < (y.length : Int)) := by omega
        simp [lexN, h2]
    · have h1 : ((i : Int) + 1 ≤ (x.length : Int)) := by omega
      have hltx : i < x.reverse.length := by simp; omega
      simp only [h1, decide_true, cond_true]
      by_cases c2 : i = y.length
      · have h2 : ¬ ((i : Int) + 1 ≤ (y.length : Int)) := by omega
        have e2 : y.reverse.drop i = [] := List.drop_eq_nil_of_le (by simp; omega)
        have h3 : ¬ ((x.length : Int) < (y.length : Int)) := by omega
        have e3 : ∀ l : List ByteArray, lexN l [] = false := fun l => by cases l <;> rfl
        simp [h2, e2, h3, e3]
      · have h2 : ((i : Int) + 1 ≤ (y.length : Int)) := by omega
        have hlty : i < y.reverse.length := by simp; omega
        have ix : idx x ((x.length : Int) - ((i : Int) + 1)) = some x.reverse[i] := by
          rw [show (x.length : Int) - ((i : Int) + 1) = (x.length : Int) - ((i + 1 : Nat) : Int) by omega, idx_sub (by omega), List.getElem?_eq_getElem (by omega), List.getElem_reverse]
          congr 1; congr 1; omega
        have iy : idx y ((y.length : Int) - ((i : Int) + 1)) = some y.reverse[i] := by
          rw [show (y.length : Int) - ((i : Int) + 1) = (y.length : Int) - ((i + 1 : Nat) : Int) by omega, idx_sub (by omega), List.getElem?_eq_getElem (by omega), List.getElem_reverse]
          congr 1; congr 1; omega
        simp only [h2, decide_true, cond_true, ix, iy, bnd1_mk]
        rw [grd_pos (by simp only [i64]; omega), grd_pos (by simp only [i64]; omega), List.drop_eq_getElem_cons hltx, List.drop_eq_getElem_cons hlty, lexN, bl_eq]
        by_cases ce : x.reverse[i] = y.reverse[i]
        · have ih := IH (k - 1) (i + 1) (by omega) (by omega) (by omega) (by omega)
          have e9 : (i : Int) + 1 + 1 = ((i + 1 : Nat) : Int) + 1 := by omega
          have g9 : i64 ((i : Int) + 1 + 1) := by constructor <;> omega
          simp only [ce, decide_true, Bool.not_true, cond_false, if_true, grd_pos g9]
          rw [e9]; exact ih
        · simp only [ce, decide_false, Bool.not_false, cond_true, if_false]

theorem s_LessName_eq {a b : ByteArray} (ha : a.size ≤ 1048576) (hb : b.size ≤ 1048576) : s_LessName a b = some (lessN a b) := by
  have h1 := labels_len a
  have h2 := labels_len b
  unfold s_LessName
  rw [s_Labels_eq ha, bnd1_mk, s_Labels_eq hb, bnd1_mk]
  have := s_LessName_l1_eq (labels a) (labels b) (by omega) (by omega) fuel0 _ 0 rfl (Nat.zero_le _) (Nat.zero_le _) (by unfold fuel0; omega)
  unfold lessN
  simpa using this

def lx {α : Type} [DecidableEq α] (lt : α → α → Bool) (x y : α) (r : Bool) : Bool := if x = y then r else lt x y

def lti (a b : Int) : Bool := decide (a < b)

def lessR (a b : Rec) : Bool := lx lessN a.name b.name (lx lti a.ty b.ty (lx lti a.n b.n (lx lessN a.host b.host (lx bl a.text b.text (lti a.ttl b.ttl)))))

theorem s_LessRecord_eq {a b : Rec} (ha : a.sm) (hb : b.sm) : s_LessRecord a b = some (lessR a b) := by
  unfold s_LessRecord lessR lx lti
  rw [s_LessName_eq ha.1 hb.1, s_LessName_eq ha.2.1 hb.2.1, bl_eq]
  by_cases c1 : a.name = b.name <;> by_cases c2 : a.ty = b.ty <;> by_cases c3 : a.n = b.n <;> by_cases c4 : a.host = b.host <;> by_cases c5 : a.text = b.text <;> simp [c1, c2, c3, c4, c5]

theorem i_byName_eq {a b : ByteArray} (ha : a.size ≤ 1048576) (hb : b.size ≤ 1048576) : i_byName a b = some (bif decide (a = b) then 0 else (bif lessN a b then -1 else 1)) := by
  unfold i_byName
  rw [i_LessName_eq ha hb, bnd1_mk, i_LessName_eq hb ha, bnd1_mk]
  by_cases c : a = b
  · subst c; simp [lessN_irr]
  · rcases lessN_tot a b c with h | h
    · simp [c, h]
    · cases hh : lessN a b with
      | true => have := lessN_trans a b a hh h; rw [lessN_irr] at this; cases this
      | false => simp [c, h]

theorem cmp_Compare_int_eq {a b : Int} : cmp_Compare_int a b = some (bif decide (a = b) then 0 else (bif lti a b then -1 else 1)) := by
  unfold cmp_Compare_int cmp_isNaN_int lti
  by_cases c : a = b
  · subst c; simp
  · by_cases c1 : a < b
    · simp [c, c1]
    · have : b < a := by omega
      simp [c, c1, this]

theorem cmp_Compare_string_eq' {a b : ByteArray} : cmp_Compare_string a b = some (bif decide (a = b) then 0 else (bif bl a b then -1 else 1)) := by
  rw [cmp_Compare_string_eq]
  by_cases c : a = b
  · subst c; simp [bl_irr]
  · simp [c]

/-- The first that is not 0 decides. -/
theorem or_step {x : Int} {l : List Int} {i : Nat} {c : Int} (h : cmp_Or_int_l0 l (i + 1) = some c) : cmp_Or_int_l0 (x :: l) i = some (bif decide (x = 0) then c else x) := by
  rw [cmp_Or_int_l0, h]; by_cases c0 : x = 0 <;> simp [c0]

theorem lx_sign {α : Type} [DecidableEq α] {lt : α → α → Bool} {x y : α} {c : Int} {r : Bool} (h : decide (c < 0) = r) :
    decide ((bif decide ((bif decide (x = y) then (0 : Int) else (bif lt x y then -1 else 1)) = 0) then c else (bif decide (x = y) then 0 else (bif lt x y then -1 else 1))) < 0) = lx lt x y r := by
  unfold lx
  by_cases e : x = y
  · simp [e, h]
  · cases lt x y <;> simp [e]

theorem i_LessRecord_eq {a b : Rec} (ha : a.sm) (hb : b.sm) : i_LessRecord a b = some (lessR a b) := by
  unfold i_LessRecord i_byRecord cmp_Or_int
  rw [i_byName_eq ha.1 hb.1, bnd1_mk, cmp_Compare_int_eq, bnd1_mk, cmp_Compare_int_eq, bnd1_mk, i_byName_eq ha.2.1 hb.2.1, bnd1_mk, cmp_Compare_string_eq', bnd1_mk, cmp_Compare_int_eq, bnd1_mk]
  rw [or_step (or_step (or_step (or_step (or_step (or_step (c := 0) rfl))))), bnd1_mk, bnd1_mk]
  congr 1
  unfold lessR
  refine lx_sign (lx_sign (lx_sign (lx_sign (lx_sign ?_))))
  by_cases e : a.ttl = b.ttl
  · simp [e, lti]
  · cases h : lti a.ttl b.ttl <;> simp [e]

theorem lx_irr {α : Type} [DecidableEq α] {lt : α → α → Bool} {x : α} {r : Bool} (h : r = false) : lx lt x x r = false := by unfold lx; rw [if_pos rfl]; exact h

theorem lx_trans {α : Type} [DecidableEq α] {lt : α → α → Bool} (irr : ∀ x, lt x x = false) (tr : ∀ x y z, lt x y = true → lt y z = true → lt x z = true) {x y z : α} {r1 r2 r3 : Bool} (h : lx lt x y r1 = true) (k : lx lt y z r2 = true) (g : r1 = true → r2 = true → r3 = true) : lx lt x z r3 = true := by
  unfold lx at h k ⊢
  by_cases e1 : x = y
  · subst e1
    rw [if_pos rfl] at h
    by_cases e2 : x = z
    · rw [if_pos e2] at k ⊢; exact g h k
    · rw [if_neg e2] at k ⊢; exact k
  · rw [if_neg e1] at h
    by_cases e2 : y = z
    · subst e2; rw [if_neg e1]; exact h
    · rw [if_neg e2] at k
      have h3 := tr x y z h k
      by_cases e3 : x = z
      · subst e3; rw [irr] at h3; cases h3
      · rw [if_neg e3]; exact h3

theorem lti_irr (a : Int) : lti a a = false := by simp [lti]

theorem lti_trans (a b c : Int) (h : lti a b = true) (k : lti b c = true) : lti a c = true := by simp only [lti, decide_eq_true_eq] at *; omega

theorem lessR_irr (a : Rec) : lessR a a = false := lx_irr (lx_irr (lx_irr (lx_irr (lx_irr (lti_irr _)))))

theorem lessR_trans {a b c : Rec} (h : lessR a b = true) (k : lessR b c = true) : lessR a c = true :=
  lx_trans lessN_irr lessN_trans h k fun h k => lx_trans lti_irr lti_trans h k fun h k => lx_trans lti_irr lti_trans h k fun h k => lx_trans lessN_irr lessN_trans h k fun h k => lx_trans bl_irr bl_trans h k fun h k => lti_trans _ _ _ h k

def okcut (r : Rec) (c : ByteArray) : Bool := !under r.name c || (decide (r.ty = 1) || (decide (r.ty = 2) && decide (r.name = c)))

def okpair (r s : Rec) : Bool := !decide (s.name = r.name) || (!(decide (s.ty = r.ty) && !decide (s.ttl = r.ttl)) && !(decide (r.ty = 5) && !decide (s = r)))

def badStart (apex : ByteArray) (r : Rec) : Bool := (decide (r.ty = 6) && !decide (r.name = apex)) || (decide (r.ty = 5) && decide (r.name = apex))

def prevI (pre : List Rec) (r : Rec) : Bool := match pre.getLast? with | none => true | some p => lessR p r

def prevS (pre : List Rec) (r : Rec) : Bool := match pre.getLast? with | none => true | some p => lessR p r && !(decide (p.name = r.name) && (decide (p.ty = r.ty) && !decide (p.ttl = r.ttl)))

def iRec (z : MZone) (pre : List Rec) (r : Rec) : Bool := under r.name z.apex && (prevI pre r && (z.l.all (okpair r) && (!badStart z.apex r && (cutsOf z).all (okcut r))))

def allP (g : List Rec → Rec → Bool) : List Rec → List Rec → Bool
  | _, [] => true
  | pre, r :: t => g pre r && allP g (pre ++ [r]) t

def starts : List Rec → Int
  | [] => 0
  | r :: t => (bif decide (r.ty = 6) then 1 else 0) + starts t

theorem i_ZoneOk_l9_eq {v : Nat} {r : Rec} {j : Int} {k : Int → Nat → Option Bool} (hr : r.sm) : ∀ (l : List ByteArray) (i : Nat), (∀ c, c ∈ l → c.size ≤ 1048576) → i_ZoneOk_l9 v r j k l i = bif l.all (okcut r) then k j (v + 1) else some false
  | [], i, _ => rfl
  | c :: l, i, h => by
    rw [i_ZoneOk_l9, i_Under_eq hr.1 (h c (.head _)), bnd1_mk, List.all_cons]
    have ih := i_ZoneOk_l9_eq (v := v) (j := j) (k := k) hr l (i + 1) (fun x hx => h x (.tail _ hx))
    generalize l.all (okcut r) = b at ih ⊢
    unfold i_ZoneOk_j10 okcut
    rw [ih]
    cases under r.name c
    · rfl
    · by_cases c1 : r.ty = 1
      · simp only [c1, decide_true, Bool.not_true, cond_true, cond_false, Bool.true_or, Bool.or_true, Bool.true_and]
      · by_cases c2 : r.ty = 2
        · simp only [c2, show ¬ ((2 : Int) = 1) from by decide, decide_true, decide_false, Bool.not_false, Bool.not_true, cond_true, Bool.false_or, Bool.true_and]
          cases decide (r.name = c) <;> rfl
        · simp only [c1, c2, decide_false, Bool.not_false, Bool.not_true, cond_true, cond_false, Bool.false_or, Bool.false_and]

theorem i_ZoneOk_l5_eq {z : MZone} {n : Int} {v : Nat} {r : Rec} {k : Int → Nat → Option Bool} : ∀ (l : List Rec) (i : Nat), i_ZoneOk_l5 z n v r k l i = bif l.all (okpair r) then i_ZoneOk_j4 z n v r k else some false
  | [], i => rfl
  | s :: l, i => by
    rw [i_ZoneOk_l5, List.all_cons]
    have ih := i_ZoneOk_l5_eq (z := z) (n := n) (v := v) (r := r) (k := k) l (i + 1)
    generalize l.all (okpair r) = b at ih ⊢
    unfold i_ZoneOk_j6 okpair
    rw [ih, rec_ext]
    cases decide (s.name = r.name)
    · rfl
    · cases decide (s.ty = r.ty) <;> cases decide (s.ttl = r.ttl) <;> cases decide (r.ty = 5) <;> cases decide (s = r) <;> rfl

theorem prev_idx {l pre t : List Rec} (h : l = pre ++ t) (hp : 0 < pre.length) : ∃ p, pre.getLast? = some p ∧ idx l ((pre.length : Int) - 1) = some p := by
  have hne : pre ≠ [] := fun e => by subst e; simp at hp
  refine ⟨pre.getLast hne, List.getLast?_eq_some_getLast hne, ?_⟩
  rw [show (pre.length : Int) - 1 = ((pre.length - 1 : Nat) : Int) by omega, idx_nat, h, List.getElem?_append_left (by omega), List.getLast_eq_getElem, List.getElem?_eq_getElem (by omega)]

theorem i_ZoneOk_l2_eq {z : MZone} (hz : z.sm) : ∀ (l pre : List Rec) (n : Int), z.l = pre ++ l → 0 ≤ n → n ≤ (pre.length : Int) →
    i_ZoneOk_l2 z l n pre.length = some (allP (iRec z) pre l && (decide (n + starts l = 1) && decide (0 < ((setOf z.l z.apex 2).length : Int))))
  | [], pre, n, _, _, _ => by
    rw [i_ZoneOk_l2, i_ZoneOk_j1, i_SetOf_eq hz.2, bnd1_mk, allP, starts, Int.add_zero, Bool.true_and]
    cases decide (n = 1) <;> rfl
  | r :: l, pre, n, hl, h0, hn => by
    have hr : r.sm := hz.2.2 r (by rw [hl]; simp)
    have hlen : pre.length + (l.length + 1) ≤ 1048576 := by have := hz.2.1; rw [hl] at this; simpa using this
    have hk : ∀ j : Int, j = n + (bif decide (r.ty = 6) then 1 else 0) → i_ZoneOk_l2 z l j (pre.length + 1) = some (allP (iRec z) (pre ++ [r]) l && (decide (n + starts (r :: l) = 1) && decide (0 < ((setOf z.l z.apex 2).length : Int)))) := fun j hj => by
      have := i_ZoneOk_l2_eq hz l (pre ++ [r]) j (by rw [hl]; simp) (by cases hd : decide (r.ty = 6) <;> rw [hd] at hj <;> simp at hj <;> omega) (by cases hd : decide (r.ty = 6) <;> rw [hd] at hj <;> simp at hj <;> simp <;> omega)
      rw [show (pre ++ [r]).length = pre.length + 1 by simp] at this
      rw [this, starts, hj, Int.add_assoc]
    have h8 : ∀ b : Bool, b = badStart z.apex r → i_ZoneOk_j8 z n pre.length r (i_ZoneOk_l2 z l) b = some ((!badStart z.apex r && (cutsOf z).all (okcut r)) && (allP (iRec z) (pre ++ [r]) l && (decide (n + starts (r :: l) = 1) && decide (0 < ((setOf z.l z.apex 2).length : Int))))) := fun b hb => by
      unfold i_ZoneOk_j8
      rw [← hb]
      cases b
      · have h7 : ∀ j : Int, j = n + (bif decide (r.ty = 6) then 1 else 0) → i_ZoneOk_j7 z pre.length r (i_ZoneOk_l2 z l) j = some ((cutsOf z).all (okcut r) && (allP (iRec z) (pre ++ [r]) l && (decide (n + starts (r :: l) = 1) && decide (0 < ((setOf z.l z.apex 2).length : Int))))) := fun j hj => by
          unfold i_ZoneOk_j7
          rw [i_CutsOf_eq hz, bnd1_mk, i_ZoneOk_l9_eq hr _ _ (cutsOf_sm hz).2, hk j hj]
          cases (cutsOf z).all (okcut r) <;> rfl
        simp only [cond_false, Bool.not_false, Bool.true_and]
        cases hd : decide (r.ty = 6)
        · rw [cond_false, h7 n (by rw [hd]; simp)]
        · rw [cond_true, grd_pos (by simp only [i64]; omega), h7 (n + 1) (by rw [hd]; simp)]
      · rfl
    have h4 : i_ZoneOk_j4 z n pre.length r (i_ZoneOk_l2 z l) = some ((!badStart z.apex r && (cutsOf z).all (okcut r)) && (allP (iRec z) (pre ++ [r]) l && (decide (n + starts (r :: l) = 1) && decide (0 < ((setOf z.l z.apex 2).length : Int))))) := by
      unfold i_ZoneOk_j4
      cases c6 : decide (r.ty = 6) <;> cases ca : decide (r.name = z.apex) <;> cases c5 : decide (r.ty = 5) <;> exact h8 _ (by unfold badStart; rw [c6, ca, c5] <;> rfl)
    have h3 : ∀ b : Bool, i_ZoneOk_j3 z n pre.length r (i_ZoneOk_l2 z l) b = some (!b && (z.l.all (okpair r) && ((!badStart z.apex r && (cutsOf z).all (okcut r)) && (allP (iRec z) (pre ++ [r]) l && (decide (n + starts (r :: l) = 1) && decide (0 < ((setOf z.l z.apex 2).length : Int))))))) := fun b => by
      unfold i_ZoneOk_j3
      rw [i_ZoneOk_l5_eq, h4]
      cases b <;> cases z.l.all (okpair r) <;> rfl
    rw [i_ZoneOk_l2, i_Under_eq hr.1 hz.1, bnd1_mk, allP, iRec]
    cases under r.name z.apex
    · exact h3 true
    · simp only [Bool.not_true, cond_false, Bool.true_and]
      cases hp : pre with
      | nil =>
        rw [← hp, show decide (0 < (pre.length : Int)) = false by rw [hp]; rfl, h3]
        simp only [cond_false, prevI, hp, List.getLast?_nil, Bool.not_false, Bool.true_and, Bool.and_assoc]
      | cons a b =>
        rw [← hp]
        have hpos : 0 < pre.length := by rw [hp]; simp
        obtain ⟨p, hp1, hp2⟩ := prev_idx hl hpos
        have hps : p.sm := hz.2.2 p (by rw [hl]; exact List.mem_append_left _ (List.mem_of_getLast? hp1))
        rw [show (decide (0 < (pre.length : Int))) = true by simp; omega, cond_true, grd_pos (by simp only [i64]; omega), hp2, bnd1_mk, i_LessRecord_eq hps hr, bnd1_mk, h3]
        simp only [prevI, hp1, Bool.not_not, Bool.and_assoc]

def zoneI (z : MZone) : Bool := nameP z.apex && (listP 20 z.l && (allP (iRec z) [] z.l && (decide (starts z.l = 1) && decide (0 < ((setOf z.l z.apex 2).length : Int)))))

theorem i_ZoneOk_eq {z : MZone} (hz : z.sm) : i_ZoneOk z = some (zoneI z) := by
  unfold i_ZoneOk zoneI
  rw [i_NameOk_eq hz.1, bnd1_mk, i_allOk_eq hz.2, bnd1_mk]
  unfold i_ZoneOk_j0
  have := i_ZoneOk_l2_eq hz z.l [] 0 rfl (by decide) (by simp)
  rw [show ([] : List Rec).length = 0 from rfl, Int.zero_add] at this
  rw [this]
  cases nameP z.apex <;> cases listP 20 z.l <;> rfl

/-- Has another record than the i-th the name? -/
def anyBut (r : Rec) (i : Nat) : List Rec → Nat → Bool
  | [], _ => false
  | e :: t, k => (!decide (k = i) && decide (e.name = r.name)) || anyBut r i t (k + 1)

def cutOk (z : MZone) (r : Rec) : Bool := !(cutOf z r.name).2 || (decide (r.ty = 1) || (decide (r.ty = 2) && decide (r.name = (cutOf z r.name).1)))

def sRec (z : MZone) (pre : List Rec) (r : Rec) : Bool := recP r && (under r.name z.apex && (prevS pre r && (!badStart z.apex r && ((!decide (r.ty = 5) || !anyBut r pre.length z.l 0) && cutOk z r))))

theorem s_l10Record_l5_eq {z : MZone} {r : Rec} {i : Nat} (hz : z.sm) (hr : r.sm) : ∀ (l : List Rec) (k : Nat), s_l10Record_l5 z (i : Int) r l k = some ((!decide (r.ty = 5) || !anyBut r i l k) && cutOk z r)
  | [], k => by
    unfold s_l10Record_l5 s_l10Record_j4 cutOk anyBut
    have h1 := s_CutOf_eq hz hr.1
    generalize cutOf z r.name = x at h1
    obtain ⟨x, y⟩ := x
    rw [h1, bnd2_mk]
    simp only [Bool.not_false, Bool.or_true, Bool.true_and]
    cases y <;> cases decide (r.ty = 1) <;> cases decide (r.ty = 2) <;> rfl
  | e :: l, k => by
    rw [s_l10Record_l5, anyBut]
    have ih := s_l10Record_l5_eq (z := z) (r := r) (i := i) hz hr l (k + 1)
    unfold s_l10Record_j6
    rw [ih]
    have e1 : decide ((k : Int) = (i : Int)) = decide (k = i) := by
      by_cases c : k = i
      · simp [c]
      · have : ¬ ((k : Int) = (i : Int)) := by omega
        simp [c, this]
    rw [e1]
    cases decide (r.ty = 5) <;> cases decide (k = i) <;> cases decide (e.name = r.name) <;> cases anyBut r i l (k + 1) <;> rfl

theorem s_l10Record_eq {z : MZone} {pre post : List Rec} {r : Rec} (hz : z.sm) (hl : z.l = pre ++ r :: post) : s_l10Record z (pre.length : Int) = some (sRec z pre r) := by
  have hr : r.sm := hz.2.2 r (by rw [hl]; simp)
  have hlen : pre.length + (post.length + 1) ≤ 1048576 := by have := hz.2.1; rw [hl] at this; simpa using this
  unfold s_l10Record sRec
  have hi : idx z.l (pre.length : Int) = some r := by rw [idx_nat, hl, get_app]
  rw [hi, bnd1_mk, s_RecordOk_eq hr, bnd1_mk, s_Under_eq hr.1 hz.1, bnd1_mk]
  have h3 : ∀ b : Bool, s_l10Record_j3 z (pre.length : Int) r b = some (!b && ((!decide (r.ty = 5) || !anyBut r pre.length z.l 0) && cutOk z r)) := fun b => by
    unfold s_l10Record_j3; rw [s_l10Record_l5_eq hz hr]; cases b <;> rfl
  have h1 : s_l10Record_j1 z (pre.length : Int) r = some (!badStart z.apex r && ((!decide (r.ty = 5) || !anyBut r pre.length z.l 0) && cutOk z r)) := by
    unfold s_l10Record_j1 badStart
    simp only [h3]
    cases decide (r.ty = 6) <;> cases decide (r.name = z.apex) <;> cases decide (r.ty = 5) <;> rfl
  unfold s_l10Record_j0 s_l10Record_j2
  simp only [h1]
  cases recP r
  · rfl
  cases under r.name z.apex
  · rfl
  simp only [Bool.not_true, cond_false, Bool.true_and]
  cases hp : pre with
  | nil =>
    rw [← hp, show decide (0 < (pre.length : Int)) = false by rw [hp]; rfl]
    simp only [cond_false, prevS, hp, List.getLast?_nil, Bool.true_and]
  | cons a b =>
    rw [← hp]
    have hpos : 0 < pre.length := by rw [hp]; simp
    obtain ⟨p, hp1, hp2⟩ := prev_idx hl hpos
    have hps : p.sm := hz.2.2 p (by rw [hl]; exact List.mem_append_left _ (List.mem_of_getLast? hp1))
    rw [show (decide (0 < (pre.length : Int))) = true by simp; omega, cond_true, grd_pos (by simp only [i64]; omega), hp2, bnd1_mk, s_LessRecord_eq hps hr, bnd1_mk]
    simp only [prevS, hp1]
    cases lessR p r <;> cases decide (p.name = r.name) <;> cases decide (p.ty = r.ty) <;> cases decide (p.ttl = r.ttl) <;> rfl

theorem s_ZoneOk_l2_eq {z : MZone} (hz : z.sm) : ∀ (l pre : List Rec) (n m : Int), z.l = pre ++ l → 0 ≤ n → n ≤ (pre.length : Int) → 0 ≤ m → m ≤ (pre.length : Int) →
    s_ZoneOk_l2 z l n m pre.length = some (allP (sRec z) pre l && (decide (n + starts l = 1) && decide (0 < m + ((setOf l z.apex 2).length : Int))))
  | [], pre, n, m, _, _, _, _, _ => by
    rw [s_ZoneOk_l2, s_ZoneOk_j1, allP, starts, Int.add_zero, Bool.true_and]
    simp only [setOf, List.filter_nil, List.length_nil, Int.ofNat_zero, Int.add_zero]
    cases decide (n = 1) <;> simp
  | r :: l, pre, n, m, hl, h0, hn, m0, hm => by
    have hlen : pre.length + (l.length + 1) ≤ 1048576 := by have := hz.2.1; rw [hl] at this; simpa using this
    have hk : ∀ j k : Int, j = n + (bif decide (r.ty = 6) then 1 else 0) → k = m + (bif decide (r.ty = 2) && decide (r.name = z.apex) then 1 else 0) → s_ZoneOk_l2 z l j k (pre.length + 1) = some (allP (sRec z) (pre ++ [r]) l && (decide (n + starts (r :: l) = 1) && decide (0 < m + ((setOf (r :: l) z.apex 2).length : Int)))) := fun j k hj hk => by
      have := s_ZoneOk_l2_eq hz l (pre ++ [r]) j k (by rw [hl]; simp) (by cases hd : decide (r.ty = 6) <;> rw [hd] at hj <;> simp at hj <;> omega) (by cases hd : decide (r.ty = 6) <;> rw [hd] at hj <;> simp at hj <;> simp <;> omega)
        (by cases hd : (decide (r.ty = 2) && decide (r.name = z.apex)) <;> rw [hd] at hk <;> simp at hk <;> omega) (by cases hd : (decide (r.ty = 2) && decide (r.name = z.apex)) <;> rw [hd] at hk <;> simp at hk <;> simp <;> omega)
      rw [show (pre ++ [r]).length = pre.length + 1 by simp] at this
      have e : k + ((setOf l z.apex 2).length : Int) = m + ((setOf (r :: l) z.apex 2).length : Int) := by
        rw [hk]
        unfold setOf
        rw [List.filter_cons]
        by_cases c1 : r.ty = 2 <;> by_cases c2 : r.name = z.apex <;> simp [c1, c2] <;> omega
      rw [this, starts, hj, Int.add_assoc, e]
    rw [s_ZoneOk_l2, s_l10Record_eq hz hl, bnd1_mk, allP]
    cases sRec z pre r
    · rfl
    simp only [Bool.not_true, cond_false, Bool.true_and]
    unfold s_ZoneOk_j3 s_ZoneOk_j4
    cases c6 : decide (r.ty = 6) <;> cases c2 : decide (r.ty = 2) <;> cases ca : decide (r.name = z.apex) <;> simp only [cond_true, cond_false] <;>
      (repeat rw [grd_pos (by simp only [i64]; omega)]) <;> exact hk _ _ (by rw [c6]; simp) (by rw [c2, ca]; simp)

def zoneS (z : MZone) : Bool := nameP z.apex && (decide ((z.l.length : Int) ≤ 20) && (allP (sRec z) [] z.l && (decide (starts z.l = 1) && decide (0 < ((setOf z.l z.apex 2).length : Int)))))

theorem s_ZoneOk_eq {z : MZone} (hz : z.sm) : s_ZoneOk z = some (zoneS z) := by
  unfold s_ZoneOk zoneS
  rw [s_NameOk_eq hz.1, bnd1_mk]
  unfold s_ZoneOk_j0
  have := s_ZoneOk_l2_eq hz z.l [] 0 0 rfl (by decide) (by simp) (by decide) (by simp)
  rw [show ([] : List Rec).length = 0 from rfl, Int.zero_add, Int.zero_add] at this
  rw [this]
  have e : decide (20 < (z.l.length : Int)) = !decide ((z.l.length : Int) ≤ 20) := by
    by_cases c : (z.l.length : Int) ≤ 20
    · have : ¬ (20 < (z.l.length : Int)) := by omega
      simp [c, this]
    · have : (20 < (z.l.length : Int)) := by omega
      simp [c, this]
  rw [e]
  cases nameP z.apex <;> cases decide ((z.l.length : Int) ≤ 20) <;> rfl

theorem allP_iff {g : List Rec → Rec → Bool} : ∀ (l p : List Rec), allP g p l = true ↔ ∀ a r b, l = a ++ r :: b → g (p ++ a) r = true
  | [], p => ⟨fun _ a r b h => by cases a <;> simp at h, fun _ => rfl⟩
  | x :: t, p => by
    rw [allP, Bool.and_eq_true, allP_iff t (p ++ [x])]
    refine ⟨fun ⟨h1, h2⟩ a r b h => ?_, fun h => ⟨by simpa using h [] x t rfl, fun a r b e => ?_⟩⟩
    · cases a with
      | nil =>
        simp only [List.nil_append, List.cons.injEq] at h
        obtain ⟨rfl, rfl⟩ := h
        simpa using h1
      | cons y a =>
        simp only [List.cons_append, List.cons.injEq] at h
        obtain ⟨rfl, e⟩ := h
        have := h2 a r b e
        simpa using this
    · have := h (x :: a) r b (by rw [e]; rfl)
      simpa using this

theorem last_cons {pre : List Rec} {x : Rec} (h : pre ≠ []) : (x :: pre).getLast? = pre.getLast? := by
  cases pre with
  | nil => exact absurd rfl h
  | cons a b => rfl

def lt (a b : Rec) : Prop := lessR a b = true

theorem sorted_of : ∀ {l : List Rec}, (∀ a r b, l = a ++ r :: b → prevI a r = true) → l.Pairwise lt
  | [], _ => .nil
  | x :: t, h => by
    have ht : t.Pairwise lt := sorted_of fun a r b e => by
      have := h (x :: a) r b (by rw [e]; rfl)
      cases a with
      | nil => rfl
      | cons y a => unfold prevI at this ⊢; rwa [last_cons (by simp)] at this
    refine List.Pairwise.cons (fun y hy => ?_) ht
    cases t with
    | nil => cases hy
    | cons z t =>
      have h1 : lt x z := by have := h [x] z t rfl; unfold lt; simpa [prevI] using this
      rcases List.mem_cons.1 hy with rfl | hy
      · exact h1
      · exact lessR_trans h1 ((List.pairwise_cons.1 ht).1 y hy)

theorem name_or {a b : Rec} (h : lt a b) : a.name = b.name ∨ lessN a.name b.name = true := by
  unfold lt lessR lx at h
  by_cases c : a.name = b.name
  · exact .inl c
  · rw [if_neg c] at h; exact .inr h

theorem between {a b c : Rec} (h : lt a b) (k : lt b c) (e : a.name = c.name) (e' : a.ty = c.ty) : b.name = a.name ∧ b.ty = a.ty := by
  have h1 : a.name = b.name := by
    rcases name_or h with h1 | h1
    · exact h1
    · rcases name_or k with h2 | h2
      · rw [e, h2, lessN_irr] at h1; cases h1
      · have := lessN_trans _ _ _ h1 h2
        rw [e, lessN_irr] at this; cases this
  refine ⟨h1.symm, ?_⟩
  unfold lt lessR lx at h k
  rw [if_pos h1] at h
  rw [if_pos (h1.symm.trans e)] at k
  by_cases c1 : a.ty = b.ty
  · exact c1.symm
  · rw [if_neg c1] at h
    by_cases c2 : b.ty = c.ty
    · exact c2.trans e'.symm
    · rw [if_neg c2] at k
      simp only [lti, decide_eq_true_eq] at h k; omega

theorem ttl_of : ∀ {l : List Rec}, l.Pairwise lt → (∀ a r b, l = a ++ r :: b → prevS a r = true) → l.Pairwise fun a b => a.name = b.name → a.ty = b.ty → a.ttl = b.ttl
  | [], _, _ => .nil
  | x :: t, hs, h => by
    have hs' := List.pairwise_cons.1 hs
    have ht := ttl_of (l := t) hs'.2 fun a r b e => by
      have := h (x :: a) r b (by rw [e]; rfl)
      cases a with
      | nil => rfl
      | cons y a => unfold prevS at this ⊢; rwa [last_cons (by simp)] at this
    refine List.Pairwise.cons (fun y hy e1 e2 => ?_) ht
    cases t with
    | nil => cases hy
    | cons z t =>
      have h1 : x.name = z.name → x.ty = z.ty → x.ttl = z.ttl := fun e3 e4 => by
        have q2 : (lessR x z && !(decide (x.name = z.name) && (decide (x.ty = z.ty) && !decide (x.ttl = z.ttl)))) = true := h [x] z t rfl
        rw [Bool.and_eq_true, decide_eq_true e3, decide_eq_true e4] at q2
        simpa using q2.2
      rcases List.mem_cons.1 hy with hy | hy
      · subst hy; exact h1 e1 e2
      · obtain ⟨b1, b2⟩ := between (hs'.1 z (.head _)) ((List.pairwise_cons.1 hs'.2).1 y hy) e1 e2
        exact (h1 b1.symm b2.symm).trans ((List.pairwise_cons.1 ht).1 y hy (b1.trans e1) (b2.trans e2))

theorem anyBut_iff {r : Rec} {i : Nat} : ∀ (l : List Rec) (k : Nat), anyBut r i l k = true ↔ ∃ j e, l[j]? = some e ∧ k + j ≠ i ∧ e.name = r.name
  | [], k => by simp [anyBut]
  | x :: t, k => by
    rw [anyBut, Bool.or_eq_true, anyBut_iff t (k + 1)]
    refine ⟨fun h => ?_, fun ⟨j, e, h1, h2, h3⟩ => ?_⟩
    · rcases h with h | ⟨j, e, h1, h2, h3⟩
      · simp only [Bool.and_eq_true, Bool.not_eq_true', decide_eq_false_iff_not, decide_eq_true_eq] at h
        exact ⟨0, x, rfl, by omega, h.2⟩
      · exact ⟨j + 1, e, by simpa using h1, by omega, h3⟩
    · cases j with
      | zero =>
        simp only [List.getElem?_cons_zero, Option.some.injEq] at h1
        subst h1
        left
        simp only [Bool.and_eq_true, Bool.not_eq_true', decide_eq_false_iff_not, decide_eq_true_eq]
        exact ⟨by omega, h3⟩
      | succ j => right; exact ⟨j, e, by simpa using h1, by omega, h3⟩

theorem pw_get {p : Rec → Rec → Prop} {l : List Rec} (h : l.Pairwise p) {i j : Nat} {a b : Rec} (hi : l[i]? = some a) (hj : l[j]? = some b) (hlt : i < j) : p a b := by
  obtain ⟨h1, rfl⟩ := List.getElem?_eq_some_iff.1 hi
  obtain ⟨h2, rfl⟩ := List.getElem?_eq_some_iff.1 hj
  exact List.pairwise_iff_getElem.1 h i j h1 h2 hlt

theorem hasS_iff {s : ByteArray} {l : List ByteArray} : hasS s l = true ↔ s ∈ l := by
  unfold hasS
  rw [List.any_eq_true]
  exact ⟨fun ⟨x, h1, h2⟩ => by rw [← of_decide_eq_true h2]; exact h1, fun h => ⟨s, h, decide_eq_true rfl⟩⟩

theorem cutsL_sorted (apex : ByteArray) : ∀ (l : List Rec) (out : List ByteArray), l.Pairwise lt → out.Pairwise (fun a b => lessN a b = true) → (∀ c, c ∈ out → ∀ r, r ∈ l → c = r.name ∨ lessN c r.name = true) → (cutsL apex l out).Pairwise (fun a b => lessN a b = true)
  | [], out, _, h, _ => h
  | r :: l, out, hs, h, ho => by
    have hs' := List.pairwise_cons.1 hs
    unfold cutsL
    cases c : cutP apex out r with
    | false => exact cutsL_sorted apex l out hs'.2 h fun c hc q hq => ho c hc q (.tail _ hq)
    | true =>
      refine cutsL_sorted apex l (out ++ [r.name]) hs'.2 ?_ fun c hc q hq => ?_
      · rw [List.pairwise_append]
        refine ⟨h, List.pairwise_singleton .., fun a ha b hb => ?_⟩
        rw [List.mem_singleton] at hb
        subst hb
        rcases ho a ha r (.head _) with e | e
        · exfalso
          unfold cutP at c
          simp only [Bool.and_eq_true, Bool.not_eq_true'] at c
          have := c.2.2.2
          rw [← e, hasS_iff.2 ha] at this; cases this
        · exact e
      · rcases List.mem_append.1 hc with hc | hc
        · exact ho c hc q (.tail _ hq)
        · rw [List.mem_singleton] at hc
          subst hc
          exact name_or (hs'.1 q hq)

theorem cutsOf_sorted {z : MZone} (h : z.l.Pairwise lt) : (cutsOf z).Pairwise (fun a b => lessN a b = true) := cutsL_sorted _ _ _ h .nil fun c hc => by cases hc

/-- The cut that is found first is the only one that has a name of its own below it. -/
theorem cut_only {z : MZone} (h : z.l.Pairwise lt) {c : ByteArray} (hf : (cutsOf z).find? (under c) = some c) {x : ByteArray} (hx : x ∈ cutsOf z) (hu : under c x = true) : c = x := by
  obtain ⟨-, as, bs, e, hn⟩ := List.find?_eq_some_iff_append.1 hf
  have hp := cutsOf_sorted h
  rw [e] at hx hp
  rcases List.mem_append.1 hx with h1 | h1
  · have := hn x h1; rw [hu] at this; cases this
  · rcases List.mem_cons.1 h1 with h1 | h1
    · exact h1.symm
    · by_cases he : c = x
      · exact he
      · have h2 := (List.pairwise_cons.1 (List.pairwise_append.1 hp).2.1).1 x h1
        have h3 := lessN_trans _ _ _ h2 (lessN_under hu he)
        rw [lessN_irr] at h3; cases h3

theorem split_of {l : List Rec} {r : Rec} (h : r ∈ l) : ∃ a b, l = a ++ r :: b := List.append_of_mem h

theorem zone_same {z : MZone} : zoneI z = zoneS z := by
  rw [Bool.eq_iff_iff]
  unfold zoneI zoneS listP
  simp only [Bool.and_eq_true, allP_iff, List.nil_append, iRec, sRec, List.all_eq_true]
  constructor
  · rintro ⟨h1, ⟨h2, h3⟩, h4, h5⟩
    have hs : z.l.Pairwise lt := sorted_of fun a r b e => (h4 a r b e).2.1
    refine ⟨h1, h3, fun a r b e => ?_, h5⟩
    obtain ⟨g1, g2, g3, g4, g5⟩ := h4 a r b e
    have hr : r ∈ z.l := by rw [e]; simp
    have hri : z.l[a.length]? = some r := by rw [e, get_app]
    refine ⟨h2 r hr, g1, ?_, g4, ?_, ?_⟩
    · unfold prevI at g2
      unfold prevS
      cases hp : a.getLast? with
      | none => rfl
      | some p =>
        rw [hp] at g2
        have hpm : p ∈ z.l := by rw [e]; exact List.mem_append_left _ (List.mem_of_getLast? hp)
        have g := g3 p hpm
        unfold okpair at g
        simp only at g2 ⊢
        rw [g2]
        cases hn : decide (p.name = r.name)
        · rfl
        · rw [hn] at g
          cases ht : decide (p.ty = r.ty)
          · rfl
          · rw [ht] at g
            cases hl : decide (p.ttl = r.ttl)
            · rw [hl] at g; simp at g
            · rfl
    · cases h5' : decide (r.ty = 5)
      · rfl
      · cases hb : anyBut r a.length z.l 0
        · rfl
        · exfalso
          obtain ⟨j, s, j1, j2, j3⟩ := (anyBut_iff _ _).1 hb
          have hsm : s ∈ z.l := List.mem_of_getElem? j1
          have g := g3 s hsm
          unfold okpair at g
          rw [h5', decide_eq_true j3] at g
          have hsr : s = r := by
            by_cases c : s = r
            · exact c
            · rw [decide_eq_false c] at g; simp at g
          subst hsr
          rcases Nat.lt_or_gt_of_ne (show j ≠ a.length by omega) with hlt | hlt
          · have := pw_get hs j1 hri hlt; unfold lt at this; rw [lessR_irr] at this; cases this
          · have := pw_get hs hri j1 hlt; unfold lt at this; rw [lessR_irr] at this; cases this
    · unfold cutOk cutOf
      cases hf : (cutsOf z).find? (under r.name) with
      | none => rfl
      | some c =>
        have g := g5 c (List.mem_of_find?_eq_some hf)
        have hu : under r.name c = true := by simpa using List.find?_some hf
        unfold okcut at g
        rw [hu] at g
        simpa using g
  · rintro ⟨h1, h3, h4, h5⟩
    have hs : z.l.Pairwise lt := sorted_of fun a r b e => by
      have := (h4 a r b e).2.2.1
      unfold prevS at this
      unfold prevI
      cases hp : a.getLast? with
      | none => rfl
      | some p => rw [hp] at this; exact (Bool.and_eq_true _ _ ▸ this).1
    have ht := ttl_of hs fun a r b e => (h4 a r b e).2.2.1
    refine ⟨h1, ⟨fun r hr => ?_, h3⟩, fun a r b e => ?_, h5⟩
    · obtain ⟨a, b, e⟩ := split_of hr
      exact (h4 a r b e).1
    · obtain ⟨g0, g1, g2, g3, g4, g5⟩ := h4 a r b e
      have hri : z.l[a.length]? = some r := by rw [e, get_app]
      refine ⟨g1, ?_, fun s hsm => ?_, g3, fun c hc => ?_⟩
      · unfold prevS at g2
        unfold prevI
        cases hp : a.getLast? with
        | none => rfl
        | some p => rw [hp] at g2; exact (Bool.and_eq_true _ _ ▸ g2).1
      · obtain ⟨j, hj⟩ := List.getElem?_of_mem hsm
        unfold okpair
        cases hn : decide (s.name = r.name)
        · rfl
        · have hn' := of_decide_eq_true hn
          have e1 : (decide (s.ty = r.ty) && !decide (s.ttl = r.ttl)) = false := by
            cases hty : decide (s.ty = r.ty)
            · rfl
            · have hty' := of_decide_eq_true hty
              have : s.ttl = r.ttl := by
                rcases Nat.lt_trichotomy j a.length with hlt | rfl | hlt
                · exact pw_get ht hj hri hlt hn' hty'
                · rw [hj] at hri; cases hri; rfl
                · exact (pw_get ht hri hj hlt hn'.symm hty'.symm).symm
              rw [decide_eq_true this]; rfl
          have e2 : (decide (r.ty = 5) && !decide (s = r)) = false := by
            cases h5' : decide (r.ty = 5)
            · rfl
            · rw [h5'] at g4
              have hb : anyBut r a.length z.l 0 = false := by simpa using g4
              have : s = r := by
                by_cases hj' : j = a.length
                · subst hj'; rw [hj] at hri; cases hri; rfl
                · exfalso
                  have := (anyBut_iff (r := r) (i := a.length) z.l 0).2 ⟨j, s, hj, by omega, hn'⟩
                  rw [hb] at this; cases this
              rw [decide_eq_true this]; rfl
          rw [e1, e2]; rfl
      · unfold okcut
        cases hu : under r.name c with
        | false => rfl
        | true =>
          unfold cutOk cutOf at g5
          cases hf : (cutsOf z).find? (under r.name) with
          | none =>
            have := List.find?_eq_none.1 hf c hc
            rw [hu] at this; exact absurd rfl this
          | some c0 =>
            rw [hf] at g5
            simp only [Bool.not_true, Bool.false_or, Bool.or_eq_true, Bool.and_eq_true, decide_eq_true_eq] at g5 ⊢
            rcases g5 with g5 | ⟨g5, g6⟩
            · exact .inl g5
            · refine .inr ⟨g5, ?_⟩
              rw [← g6] at hf
              exact cut_only hs hf hc hu

/-- How long an entry may last from now on. -/
def left (til now : Int) : Int := if til - now ≤ 100000 then til - now else 100000

theorem w_big_eq {p : List Int} : w_big p = some (decide (1048576 < (p.length : Int))) := rfl

theorem s_SortRecords_j1_eq {v : List Rec} {i : Nat} {e : Rec} {K : List Rec → Nat → Option (List Rec)} {j : Nat} (hj : j ≤ v.length) (hv : v.length ≤ 1000) : s_SortRecords_j1 v i e K (j : Int) = K ((v.take j ++ [e]) ++ v.drop j) (i + 1) := by
  have e1 : (v.drop (0 + ((0 : Nat) : Int).toNat)).take ((j : Int).toNat - ((0 : Nat) : Int).toNat) = v.take j := by simp
  have e2 : (v.drop (0 + (j : Int).toNat)).take ((v.length : Int).toNat - (j : Int).toNat) = v.drop j := by
    rw [Int.toNat_natCast, Int.toNat_natCast, Nat.zero_add]; exact List.take_of_length_le (by simp)
  have l1 : (v.take j).length = j := by rw [List.length_take]; omega
  have l2 : (v.drop j).length = v.length - j := List.length_drop
  unfold s_SortRecords_j1
  rw [e1, e2, List.nil_append, grd_pos (by omega), grd_pos (by omega), grd_pos (by simp only [List.length_append, List.length_singleton]; omega), grd_pos (by omega), grd_pos (by simp only [List.length_append, List.length_singleton]; omega)]

theorem s_SortRecords_l2_p {v : List Rec} {i : Nat} {e : Rec} {K : List Rec → Nat → Option (List Rec)} (hv : v.length ≤ 1000) (hs : ∀ r, r ∈ v → r.sm) (he : e.sm) : ∀ (k fl : Nat), k ≤ v.length → k < fl → ∃ j, j ≤ v.length ∧ s_SortRecords_l2 v i e K fl (k : Int) = K ((v.take j ++ [e]) ++ v.drop j) (i + 1)
  | 0, fl, hk, hf => by
    obtain ⟨fl, rfl⟩ : ∃ q, fl = q + 1 := ⟨fl - 1, by omega⟩
    refine ⟨0, by omega, ?_⟩
    rw [s_SortRecords_l2]
    unfold s_SortRecords_j3
    exact s_SortRecords_j1_eq (j := 0) (by omega) hv
  | k + 1, fl, hk, hf => by
    obtain ⟨fl, rfl⟩ : ∃ q, fl = q + 1 := ⟨fl - 1, by omega⟩
    have c1 : (0 : Int) < ((k + 1 : Nat) : Int) := by omega
    have e9 : ((k + 1 : Nat) : Int) - 1 = (k : Int) := by omega
    obtain ⟨x, e1, hx⟩ := idx_ok (l := v) (i := (k : Int)) (by omega) (by omega)
    rw [s_SortRecords_l2, decide_eq_true c1, cond_true, e9, grd_pos (by simp only [i64]; omega), e1, bnd1_mk, s_LessRecord_eq he (hs x hx), bnd1_mk]
    unfold s_SortRecords_j3
    cases lessR e x with
    | true =>
      obtain ⟨j, h1, h2⟩ := s_SortRecords_l2_p (i := i) (K := K) hv hs he k fl (by omega) (by omega)
      refine ⟨j, h1, ?_⟩
      rw [cond_true, e9, grd_pos (by simp only [i64]; omega)]
      exact h2
    | false => exact ⟨k + 1, hk, s_SortRecords_j1_eq hk hv⟩

theorem s_SortRecords_l0_p : ∀ (l v : List Rec) (i : Nat), (∀ r, r ∈ v → r.sm) → (∀ r, r ∈ l → r.sm) → v.length + l.length ≤ 1000 → ∃ m, s_SortRecords_l0 l v i = some m ∧ m.length = v.length + l.length ∧ ∀ r, r ∈ m → r ∈ v ∨ r ∈ l
  | [], v, i, _, _, _ => ⟨v, rfl, rfl, fun r hr => .inl hr⟩
  | e :: l, v, i, hv, hl, hn => by
    simp only [List.length_cons] at hn
    obtain ⟨j, h1, h2⟩ := s_SortRecords_l2_p (i := i) (K := s_SortRecords_l0 l) (by omega) hv (hl e (.head _)) v.length fuel0 (Nat.le_refl _) (fuel_lt (by omega))
    have hm : ∀ r, r ∈ (v.take j ++ [e]) ++ v.drop j → r ∈ v ∨ r = e := fun r hr => by
      rcases List.mem_append.1 hr with hr | hr
      · rcases List.mem_append.1 hr with hr | hr
        · exact .inl (List.mem_of_mem_take hr)
        · exact .inr (List.mem_singleton.1 hr)
      · exact .inl (List.mem_of_mem_drop hr)
    have hlen : ((v.take j ++ [e]) ++ v.drop j).length = v.length + 1 := by
      simp only [List.length_append, List.length_singleton, List.length_take, List.length_drop]; omega
    obtain ⟨m, g1, g2, g3⟩ := s_SortRecords_l0_p l ((v.take j ++ [e]) ++ v.drop j) (i + 1) (fun r hr => by
      rcases hm r hr with h | rfl
      · exact hv r h
      · exact hl r (.head _)) (fun r hr => hl r (.tail _ hr)) (by omega)
    refine ⟨m, by rw [s_SortRecords_l0, h2]; exact g1, by rw [g2, hlen, List.length_cons]; omega, fun r hr => ?_⟩
    rcases g3 r hr with h | h
    · rcases hm r h with h | rfl
      · exact .inl h
      · exact .inr (.head _)
    · exact .inr (.tail _ h)

theorem s_SortRecords_p {l : List Rec} (hl : l.length ≤ 1000) (hs : ∀ r, r ∈ l → r.sm) : ∃ m, s_SortRecords l = some m ∧ m.length = l.length ∧ ∀ r, r ∈ m → r ∈ l := by
  obtain ⟨m, h1, h2, h3⟩ := s_SortRecords_l0_p l [] 0 (fun r hr => by cases hr) hs (by simpa using hl)
  refine ⟨m, h1, by simpa using h2, fun r hr => ?_⟩
  rcases h3 r hr with h | h
  · cases h
  · exact h

/-- A small record of a small time. -/
def Rec.smt (r : Rec) : Prop := r.sm ∧ 0 ≤ r.ttl ∧ r.ttl ≤ 1000

theorem s_l10Uniq_l0_p : ∀ (l v : List Rec) (i : Nat), (∀ r, r ∈ v → r.smt) → (∀ r, r ∈ l → r.smt) → v.length + l.length ≤ 1000 → ∃ m, s_l10Uniq_l0 l v i = some m ∧ m.length ≤ v.length + l.length ∧ (0 < v.length ∨ 0 < l.length → 0 < m.length) ∧ ∀ r, r ∈ m → r.smt
  | [], v, i, hv, _, _ => ⟨v, rfl, Nat.le_refl _, fun h => by rcases h with h | h; exact h; simp at h, hv⟩
  | e :: l, v, i, hv, hl, hn => by
    simp only [List.length_cons] at hn
    have he := hl e (.head _)
    have hlt : ∀ r, r ∈ l → r.smt := fun r hr => hl r (.tail _ hr)
    have go : ∀ v' : List Rec, (∀ r, r ∈ v' → r.smt) → v'.length ≤ v.length + 1 → 0 < v'.length → ∃ m, s_l10Uniq_l0 l v' (i + 1) = some m ∧ m.length ≤ v.length + (e :: l).length ∧ (0 < v.length ∨ 0 < (e :: l).length → 0 < m.length) ∧ ∀ r, r ∈ m → r.smt := fun v' h1 h2 h3 => by
      obtain ⟨m, g1, g2, g3, g4⟩ := s_l10Uniq_l0_p l v' (i + 1) h1 hlt (by omega)
      exact ⟨m, g1, by rw [List.length_cons]; omega, fun _ => g3 (.inl h3), g4⟩
    have j1 : ∀ t : Int, 0 ≤ t → t ≤ 1000 → ∃ m, s_l10Uniq_j1 v i e (s_l10Uniq_l0 l) t = some m ∧ m.length ≤ v.length + (e :: l).length ∧ (0 < v.length ∨ 0 < (e :: l).length → 0 < m.length) ∧ ∀ r, r ∈ m → r.smt := fun t t0 t1 => by
      unfold s_l10Uniq_j1
      rw [grd_pos (by rw [List.length_append, List.length_singleton]; omega)]
      refine go _ (fun r hr => ?_) (by rw [List.length_append, List.length_singleton]; omega) (by rw [List.length_append, List.length_singleton]; omega)
      rcases List.mem_append.1 hr with hr | hr
      · exact hv r hr
      · rw [List.mem_singleton] at hr; rw [hr]; exact ⟨⟨he.1.1, he.1.2.1, he.1.2.2⟩, t0, t1⟩
    have j2 : ∀ b : Bool, (b = true → 0 < v.length) → ∃ m, s_l10Uniq_j2 v i e (s_l10Uniq_l0 l) b = some m ∧ m.length ≤ v.length + (e :: l).length ∧ (0 < v.length ∨ 0 < (e :: l).length → 0 < m.length) ∧ ∀ r, r ∈ m → r.smt := fun b hb => by
      unfold s_l10Uniq_j2
      cases b with
      | false => exact j1 _ he.2.1 he.2.2
      | true =>
        have h0 := hb rfl
        obtain ⟨x, e1, hx⟩ := idx_ok (l := v) (i := (v.length : Int) - 1) (by omega) (by omega)
        rw [cond_true, grd_pos (by simp only [i64]; omega), e1, bnd1_mk, grd_pos (by simp only [i64]; omega)]
        generalize (decide (x.name = e.name) && (decide (x.ty = e.ty) && (decide (x.ttl = x.ttl) && (decide (x.n = e.n) && (decide (x.host = e.host) && (decide (x.text = e.text) && true)))))) = b
        cases b with
        | true => exact go v hv (by omega) h0
        | false => exact j1 _ (hv x hx).2.1 (hv x hx).2.2
    rw [s_l10Uniq_l0]
    cases hd : decide (0 < (v.length : Int)) with
    | false => exact j2 false (by simp)
    | true =>
      have h0 : 0 < v.length := by have := of_decide_eq_true hd; omega
      obtain ⟨x, e1, hx⟩ := idx_ok (l := v) (i := (v.length : Int) - 1) (by omega) (by omega)
      rw [cond_true, grd_pos (by simp only [i64]; omega), e1, bnd1_mk, grd_pos (by simp only [i64]; omega)]
      cases decide (x.name = e.name) with
      | true => exact j2 _ (fun _ => h0)
      | false => exact j2 false (by simp)

theorem s_l10Uniq_p {l : List Rec} (hl : l.length ≤ 1000) (hs : ∀ r, r ∈ l → r.smt) : ∃ m, s_l10Uniq l = some m ∧ m.length ≤ l.length ∧ (0 < l.length → 0 < m.length) ∧ ∀ r, r ∈ m → r.smt := by
  obtain ⟨a, h1, h2, h3⟩ := s_SortRecords_p hl fun r hr => (hs r hr).1
  obtain ⟨m, g1, g2, g3, g4⟩ := s_l10Uniq_l0_p a [] 0 (fun r hr => by cases hr) (fun r hr => hs r (h3 r hr)) (by simp; omega)
  unfold s_l10Uniq
  rw [h1, bnd1_mk]
  exact ⟨m, g1, by simpa [h2] using g2, fun h => g3 (.inr (by omega)), g4⟩

/-- A drawn zone. -/
def MZone.dz (z : MZone) (n : Nat) : Prop := z.apex.size ≤ 1048576 ∧ 0 < z.l.length ∧ z.l.length ≤ n ∧ ∀ r, r ∈ z.l → r.smt

theorem mem_app2 {α : Type} {p : α → Prop} {a b : List α} (h1 : ∀ r, r ∈ a → p r) (h2 : ∀ r, r ∈ b → p r) : ∀ r, r ∈ a ++ b → p r := fun r hr => by
  rcases List.mem_append.1 hr with h | h
  · exact h1 r h
  · exact h2 r h

theorem mem_one {α : Type} {p : α → Prop} {a : α} (h : p a) : ∀ r, r ∈ [a] → p r := fun r hr => by rw [List.mem_singleton] at hr; rw [hr]; exact h

theorem mem_two {α : Type} {p : α → Prop} {a b : α} (h : p a) (k : p b) : ∀ r, r ∈ [a, b] → p r := fun r hr => by
  cases hr with
  | head => exact h
  | tail _ hr => exact mem_one k r hr

theorem smt_of {a b c : ByteArray} {k t n : Int} (h1 : a.size ≤ 1048576) (h2 : b.size ≤ 1048576) (h3 : c.size ≤ 1048576) (t0 : 0 ≤ t) (t1 : t ≤ 1000) : (Rec.mk a k t n b c).smt := ⟨⟨h1, h2, h3⟩, t0, t1⟩

theorem s_l10Zone_p {c : Cur} (h : c.inv) : ∃ z d, s_l10Zone c = some (z, d) ∧ d.inv ∧ z.dz 8 := by
  obtain ⟨t, d1, e1, h1, ht⟩ := s_l1Int_p (l := [5, 60, 300]) h (by decide) (by decide)
  obtain ⟨t0, t1⟩ : 0 ≤ t ∧ t ≤ 1000 := by
    simp only [List.mem_cons, List.not_mem_nil, or_false] at ht
    omega
  have h2 : ∀ (d : Cur) (l : List Rec), d.inv → 0 < l.length → l.length ≤ 8 → (∀ r, r ∈ l → r.smt) → ∃ z q, s_l10Zone_j2 d.b d.i d.h l = some (z, q) ∧ q.inv ∧ z.dz 8 := fun d l hd l0 l1 hl => by
    obtain ⟨m, g1, g2, g3, g4⟩ := s_l10Uniq_p (l := l) (by omega) hl
    unfold s_l10Zone_j2
    rw [g1, bnd1_mk]
    exact ⟨_, _, rfl, hd, (by decide : (⟨#[99, 111, 109]⟩ : ByteArray).size ≤ 1048576), g3 l0, Nat.le_trans g2 l1, g4⟩
  have h3 : ∀ (d : Cur) (l : List Rec), d.inv → 0 < l.length → l.length ≤ 6 → (∀ r, r ∈ l → r.smt) → ∃ z q, s_l10Zone_j1 d.b d.i d.h l = some (z, q) ∧ q.inv ∧ z.dz 8 := fun d l hd l0 l1 hl => by
    obtain ⟨o, d3, e3, g3⟩ := s_l1Once_p (n := 2) hd (by omega) (by omega)
    unfold s_l10Zone_j1
    rw [show Cur.mk d.b d.i d.h = d from rfl, e3, bnd2_mk]
    cases o with
    | false => exact h2 d3 l g3 l0 (by omega) hl
    | true =>
      unfold s_l10Addr
      rw [cond_true, bnd1_mk, grd_pos (by rw [List.length_append]; simp only [List.length_cons, List.length_nil]; omega)]
      exact h2 d3 _ g3 (by rw [List.length_append]; omega) (by rw [List.length_append]; simp only [List.length_cons, List.length_nil]; omega) (mem_app2 hl (mem_two (smt_of (by decide) (by decide) (by decide) (by decide) (by decide)) (smt_of (by decide) (by decide) (by decide) (by decide) (by decide))))
  have h4 : ∀ (d : Cur) (l : List Rec), d.inv → 0 < l.length → l.length ≤ 5 → (∀ r, r ∈ l → r.smt) → ∃ z q, s_l10Zone_j0 d.b d.i d.h l = some (z, q) ∧ q.inv ∧ z.dz 8 := fun d l hd l0 l1 hl => by
    obtain ⟨o, d3, e3, g3⟩ := s_l1Once_p (n := 2) hd (by omega) (by omega)
    unfold s_l10Zone_j0
    rw [show Cur.mk d.b d.i d.h = d from rfl, e3, bnd2_mk]
    cases o with
    | false => exact h3 d3 l g3 l0 (by omega) hl
    | true =>
      rw [cond_true, grd_pos (by rw [List.length_append]; simp only [List.length_cons, List.length_nil]; omega)]
      exact h3 d3 _ g3 (by rw [List.length_append]; omega) (by rw [List.length_append]; simp only [List.length_cons, List.length_nil]; omega) (mem_app2 hl (mem_one (smt_of (by decide) (by decide) (by decide) (by decide) (by decide))))
  obtain ⟨o, d3, e3, g3⟩ := s_l1Once_p (n := 2) h1 (by omega) (by omega)
  unfold s_l10Zone s_l10Start s_l10Server s_l10Addr
  rw [e1, bnd2_mk, bnd1_mk, bnd1_mk, bnd1_mk, e3, bnd2_mk]
  have m0 : ∀ x y z : Rec, x.smt → y.smt → z.smt → ∀ r, r ∈ [x, y, z] → r.smt := fun x y z hx hy hz r hr => by
    cases hr with
    | head => exact hx
    | tail _ hr => exact mem_two hy hz r hr
  have hl : ∀ r, r ∈ [Rec.mk (⟨#[99, 111, 109]⟩ : ByteArray) 6 t (IntKind.i64.wrap (Int.tdiv t 2)) (⟨#[]⟩ : ByteArray) (⟨#[]⟩ : ByteArray), Rec.mk (⟨#[99, 111, 109]⟩ : ByteArray) 2 t 0 (⟨#[110, 115, 46, 99, 111, 109]⟩ : ByteArray) (⟨#[]⟩ : ByteArray), Rec.mk (⟨#[110, 115, 46, 99, 111, 109]⟩ : ByteArray) 1 t 2 (⟨#[]⟩ : ByteArray) (⟨#[]⟩ : ByteArray)] → r.smt :=
    m0 _ _ _ (smt_of (by decide) (by decide) (by decide) t0 t1) (smt_of (by decide) (by decide) (by decide) t0 t1) (smt_of (by decide) (by decide) (by decide) t0 t1)
  cases o with
  | false => exact h4 d3 _ g3 (by simp) (by simp) hl
  | true =>
    rw [cond_true, bnd1_mk, bnd1_mk, grd_pos (by simp)]
    exact h4 d3 _ g3 (by simp) (by simp) (mem_app2 hl (mem_two (smt_of (by decide) (by decide) (by decide) t0 t1) (smt_of (by decide) (by decide) (by decide) t0 t1)))

theorem dz_sm {z : MZone} {n : Nat} (h : z.dz n) (hn : n ≤ 1000) : z.sm := ⟨h.1, by have := h.2.2.1; omega, fun r hr => (h.2.2.2 r hr).1⟩

theorem s_l10Any_p {c : Cur} (h : c.inv) : ∃ z d, s_l10Any c = some (z, d) ∧ d.inv ∧ z.sm ∧ z.l.length ≤ 20 := by
  obtain ⟨z, d1, e1, h1, hz⟩ := s_l10Zone_p h
  obtain ⟨k, d2, e2, h2, -, -⟩ := s_l1Below_p (n := 12) h1 (by omega) (by omega)
  have hs := dz_sm hz (by omega)
  obtain ⟨z1, z2, z3, z4⟩ := hz
  have uq : ∀ x : Rec, x.smt → ∃ m, s_l10Uniq (z.l ++ [x]) = some m ∧ smL m ∧ m.length ≤ 20 := fun x hx => by
    obtain ⟨m, g1, g2, -, g4⟩ := s_l10Uniq_p (l := z.l ++ [x]) (by simp; omega) (mem_app2 z4 (mem_one hx))
    have g2' : m.length ≤ 20 := by simp at g2; omega
    exact ⟨m, g1, ⟨by omega, fun r hr => (g4 r hr).1⟩, g2'⟩
  unfold s_l10Any
  rw [e1, bnd2_mk, e2, bnd2_mk]
  cases decide (k = 0) with
  | true =>
    obtain ⟨s, d3, e3, h3, hs3⟩ := s_l1Str_p (l := [(⟨#[]⟩ : ByteArray), (⟨#[111, 114, 103]⟩ : ByteArray), (⟨#[101, 120, 46, 99, 111, 109]⟩ : ByteArray), (⟨#[65]⟩ : ByteArray)]) h2 (by decide) (by decide)
    rw [cond_true, e3, bnd2_mk]
    exact ⟨_, _, rfl, h3, ⟨small_of rfl hs3, hs.2⟩, by show z.l.length ≤ 20; omega⟩
  | false =>
  rw [cond_false]
  cases decide (k = 1) with
  | true =>
    obtain ⟨r, d3, e3, h3, hr⟩ := s_l5Draw_p h2
    rw [cond_true, e3, bnd2_mk, grd_pos (by simp; omega)]
    exact ⟨_, _, rfl, h3, ⟨z1, by show (z.l ++ [r]).length ≤ _; simp; omega, mem_app2 hs.2.2 (mem_one hr)⟩, by show (z.l ++ [r]).length ≤ _; simp; omega⟩
  | false =>
  rw [cond_false]
  cases decide (k = 2) with
  | true =>
    rw [cond_true, grd_pos (by omega)]
    refine ⟨_, _, rfl, h2, ⟨z1, ?_, fun r hr => hs.2.2 r (List.mem_of_mem_drop (List.mem_of_mem_take hr))⟩, ?_⟩
    · show List.length (List.take _ _) ≤ _
      rw [List.length_take, List.length_drop]; omega
    · show List.length (List.take _ _) ≤ _
      rw [List.length_take, List.length_drop]; omega
  | false =>
  rw [cond_false]
  cases decide (k = 3) with
  | true =>
    obtain ⟨m, g1, g2⟩ := uq _ (smt_of (a := (⟨#[120, 46, 101, 120, 46, 99, 111, 109]⟩ : ByteArray)) (k := 16) (t := 0) (n := 0) (b := (⟨#[]⟩ : ByteArray)) (c := (⟨#[110, 111]⟩ : ByteArray)) (by decide) (by decide) (by decide) (by decide) (by decide))
    rw [cond_true, grd_pos (by simp; omega), g1, bnd1_mk]
    exact ⟨_, _, rfl, h2, ⟨z1, g2.1⟩, g2.2⟩
  | false =>
  rw [cond_false]
  cases decide (k = 4) with
  | true =>
    obtain ⟨m, g1, g2⟩ := uq _ (smt_of (a := (⟨#[116, 46, 99, 111, 109]⟩ : ByteArray)) (k := 5) (t := 0) (n := 0) (b := (⟨#[99, 111, 109]⟩ : ByteArray)) (c := (⟨#[]⟩ : ByteArray)) (by decide) (by decide) (by decide) (by decide) (by decide))
    rw [cond_true, grd_pos (by simp; omega), g1, bnd1_mk]
    exact ⟨_, _, rfl, h2, ⟨z1, g2.1⟩, g2.2⟩
  | false =>
  rw [cond_false]
  cases decide (k = 5) with
  | true =>
    obtain ⟨m, g1, g2⟩ := uq _ (smt_of (a := (⟨#[97, 46, 99, 111, 109]⟩ : ByteArray)) (k := 6) (t := 5) (n := IntKind.i64.wrap (Int.tdiv 5 2)) (b := (⟨#[]⟩ : ByteArray)) (c := (⟨#[]⟩ : ByteArray)) (by decide) (by decide) (by decide) (by decide) (by decide))
    unfold s_l10Start
    rw [cond_true, bnd1_mk, grd_pos (by simp; omega), g1, bnd1_mk]
    exact ⟨_, _, rfl, h2, ⟨z1, g2.1⟩, g2.2⟩
  | false =>
  rw [cond_false]
  cases decide (k = 6) with
  | true =>
    obtain ⟨x, g1, g2⟩ := idx_ok (l := z.l) (i := 0) (by omega) (by omega)
    have hx := z4 x g2
    have hx1 := hx.2.1
    have hx2 := hx.2.2
    rw [cond_true, g1, bnd1_mk, grd_pos (by simp only [i64]; omega)]
    refine ⟨_, _, rfl, h2, ⟨z1, by show List.length (List.set _ _ _) ≤ _; rw [List.length_set]; omega, fun r hr => ?_⟩, by show List.length (List.set _ _ _) ≤ _; rw [List.length_set]; omega⟩
    rcases List.mem_or_eq_of_mem_set hr with hr | rfl
    · exact hs.2.2 r hr
    · exact ⟨hx.1.1, hx.1.2.1, hx.1.2.2⟩
  | false => exact ⟨_, _, rfl, h2, hs, by omega⟩

theorem s_l10Name_p {c : Cur} (h : c.inv) : ∃ s d, s_l10Name c = some (s, d) ∧ d.inv ∧ s.size ≤ 1048576 := by
  unfold s_l10Name
  obtain ⟨s, d3, e3, h3, hs3⟩ := s_l1Str_p (l := [(⟨#[]⟩ : ByteArray), (⟨#[99, 111, 109]⟩ : ByteArray), (⟨#[110, 115, 46, 99, 111, 109]⟩ : ByteArray), (⟨#[101, 120, 46, 99, 111, 109]⟩ : ByteArray), (⟨#[119, 119, 119, 46, 101, 120, 46, 99, 111, 109]⟩ : ByteArray), (⟨#[110, 115, 46, 101, 120, 46, 99, 111, 109]⟩ : ByteArray), (⟨#[119, 119, 119, 46, 99, 111, 109]⟩ : ByteArray), (⟨#[116, 46, 99, 111, 109]⟩ : ByteArray), (⟨#[97, 46, 99, 111, 109]⟩ : ByteArray), (⟨#[98, 46, 97, 46, 99, 111, 109]⟩ : ByteArray), (⟨#[110, 111, 46, 99, 111, 109]⟩ : ByteArray), (⟨#[111, 114, 103]⟩ : ByteArray)]) h (by decide) (by decide)
  rw [e3, bnd2_mk]
  exact ⟨_, _, rfl, h3, small_of rfl hs3⟩

theorem w_sameStrs_l0_self : ∀ (t pre : List ByteArray), w_sameStrs_l0 (pre ++ t) t pre.length = some true
  | [], pre => rfl
  | s :: t, pre => by
    have := w_sameStrs_l0_self t (pre ++ [s])
    rw [show (pre ++ [s]).length = pre.length + 1 by simp, show pre ++ [s] ++ t = pre ++ s :: t by simp] at this
    rw [w_sameStrs_l0, idx_nat, get_app, bnd1_mk, decide_eq_true rfl, Bool.not_true, cond_false]
    exact this

theorem w_sameStrs_self {l : List ByteArray} : w_sameStrs l l = some true := by
  unfold w_sameStrs
  rw [decide_eq_true rfl, Bool.not_true, cond_false]
  exact w_sameStrs_l0_self l []

theorem s_DrawZoneOk_p {b : List Int} (hb : b.length ≤ 1048576) : ∃ z, s_DrawZoneOk b = some z ∧ z.sm := by
  obtain ⟨c, e, hc⟩ := s_l1New_p hb
  obtain ⟨z, d, e1, h1, hz, -⟩ := s_l10Any_p hc
  unfold s_DrawZoneOk
  rw [e, bnd1_mk, e1, bnd2_mk]
  exact ⟨z, rfl, hz⟩

theorem s_DrawCutOf_p {b : List Int} (hb : b.length ≤ 1048576) : ∃ z s, s_DrawCutOf b = some (z, s) ∧ z.sm ∧ s.size ≤ 1048576 := by
  obtain ⟨c, e, hc⟩ := s_l1New_p hb
  obtain ⟨z, d, e1, h1, hz, -⟩ := s_l10Any_p hc
  obtain ⟨s, d2, e2, h2, hs⟩ := s_l10Name_p h1
  unfold s_DrawCutOf
  rw [e, bnd1_mk, e1, bnd2_mk, e2, bnd2_mk]
  exact ⟨z, s, rfl, hz, hs⟩

theorem s_DrawExists_p {b : List Int} (hb : b.length ≤ 1048576) : ∃ z s, s_DrawExists b = some (z, s) ∧ z.sm ∧ s.size ≤ 1048576 := by
  obtain ⟨c, e, hc⟩ := s_l1New_p hb
  obtain ⟨z, d, e1, h1, hz, -⟩ := s_l10Any_p hc
  obtain ⟨s, d2, e2, h2, hs⟩ := s_l10Name_p h1
  unfold s_DrawExists
  rw [e, bnd1_mk, e1, bnd2_mk, e2, bnd2_mk]
  exact ⟨z, s, rfl, hz, hs⟩

theorem s_DrawGlue_p {b : List Int} (hb : b.length ≤ 1048576) : ∃ z l, s_DrawGlue b = some (z, l) ∧ z.sm ∧ l.length ≤ 1048576 := by
  obtain ⟨c, e, hc⟩ := s_l1New_p hb
  obtain ⟨z, d, e1, h1, hz, hn⟩ := s_l10Any_p hc
  obtain ⟨o, d2, e2, h2⟩ := s_l1Once_p (n := 2) h1 (by omega) (by omega)
  unfold s_DrawGlue
  rw [e, bnd1_mk, e1, bnd2_mk, e2, bnd2_mk]
  cases o with
  | true =>
    rw [cond_true, s_Hosts_eq hz.2, bnd1_mk]
    exact ⟨z, _, rfl, hz, by have := hostsL_len z.l []; simp only [List.length_nil] at this; omega⟩
  | false =>
    obtain ⟨s, d3, e3, h3, -⟩ := s_l10Name_p h2
    obtain ⟨t, d4, e4, h4, -⟩ := s_l10Name_p h3
    rw [cond_false, e3, bnd2_mk, e4, bnd2_mk]
    exact ⟨z, _, rfl, hz, by simp⟩

theorem starts_pos {z : MZone} (h : starts z.l = 1) (h2 : 0 < (setOf z.l z.apex 2).length) : 2 ≤ z.l.length := by
  cases hl : z.l with
  | nil => rw [hl] at h2; simp [setOf] at h2
  | cons a t =>
    cases t with
    | cons b t => simp
    | nil =>
      exfalso
      rw [hl] at h h2
      have h3 : a.ty = 2 := by
        unfold setOf at h2
        obtain ⟨x, hx⟩ := List.exists_mem_of_length_pos h2
        obtain ⟨hx, hx2⟩ := List.mem_filter.1 hx
        rw [List.mem_singleton] at hx; subst hx
        simp only [Bool.and_eq_true, decide_eq_true_eq] at hx2
        exact hx2.2
      revert h
      simp [starts, h3]

theorem law_FnZonesBent {p : List Int} {h : Prop} (_ : h) : w_FnZonesBent p = some true := by
  unfold w_FnZonesBent
  rw [w_big_eq, bnd1_mk]
  by_cases c0 : 1048576 < (p.length : Int)
  · rw [decide_eq_true c0]; rfl
  have hb : p.length ≤ 1048576 := by omega
  obtain ⟨z, e1, hz⟩ := s_DrawZoneOk_p hb
  obtain ⟨a, s, e2, ha, hs⟩ := s_DrawCutOf_p hb
  obtain ⟨b, t, e3, hbz, ht⟩ := s_DrawExists_p hb
  obtain ⟨g, l, e4, hg, hl⟩ := s_DrawGlue_p hb
  have k1 := i_CutOf_eq ha hs
  have k2 := s_CutOf_eq ha hs
  generalize cutOf a s = x at k1 k2
  obtain ⟨x, y⟩ := x
  rw [decide_eq_false c0, cond_false, e1, bnd1_mk, e2, bnd2_mk, k1, bnd2_mk, k2, bnd2_mk, e3, bnd2_mk, e4, bnd2_mk, i_ZoneOk_eq hz, bnd1_mk, s_ZoneOk_eq hz, bnd1_mk, zone_same, beq_self_eq_true, Bool.not_true, cond_false, decide_eq_true rfl, Bool.not_true, cond_false, beq_self_eq_true, Bool.not_true, cond_false,
    i_Exists_eq hbz.2 ht, bnd1_mk, s_Exists_eq hbz.2 ht, bnd1_mk, beq_self_eq_true, Bool.not_true, cond_false, i_Glue_eq hg.2 hl, bnd1_mk, s_Glue_eq hg.2 hl, bnd1_mk, w_sameRecs_self, bnd1_mk, Bool.not_true, cond_false, i_CutsOf_eq hz, bnd1_mk, s_CutsOf_eq hz, bnd1_mk, w_sameStrs_self, bnd1_mk, Bool.not_true, cond_false,
    i_InZone_eq hbz ht, bnd1_mk, s_InZone_eq hbz ht, bnd1_mk, beq_self_eq_true, Bool.not_true]
  unfold w_FnZonesBent_j0
  rw [cond_false, i_ZoneOk_eq hz, bnd1_mk, zone_same]
  cases hk : zoneS z with
  | false => rfl
  | true =>
    unfold zoneS at hk
    simp only [Bool.and_eq_true, decide_eq_true_eq] at hk
    obtain ⟨-, k20, -, kst, kset⟩ := hk
    have h2 := starts_pos kst (by omega)
    have h3 : (2 : Int) ≤ (z.l.length : Int) := by omega
    rw [Bool.not_true, cond_false, decide_eq_true h3, cond_true, decide_eq_true k20]

def z1 (t : Int) (a : Bool) : List Rec := bif a then [Rec.mk (⟨#[99, 111, 109]⟩ : ByteArray) 6 t (IntKind.i64.wrap (Int.tdiv t 2)) (⟨#[]⟩ : ByteArray) (⟨#[]⟩ : ByteArray), Rec.mk (⟨#[99, 111, 109]⟩ : ByteArray) 2 t 0 (⟨#[110, 115, 46, 99, 111, 109]⟩ : ByteArray) (⟨#[]⟩ : ByteArray), Rec.mk (⟨#[110, 115, 46, 99, 111, 109]⟩ : ByteArray) 1 t 2 (⟨#[]⟩ : ByteArray) (⟨#[]⟩ : ByteArray)] ++ [Rec.mk (⟨#[101, 120, 46, 99, 111, 109]⟩ : ByteArray) 2 t 0 (⟨#[110, 115, 46, 101, 120, 46, 99, 111, 109]⟩ : ByteArray) (⟨#[]⟩ : ByteArray), Rec.mk (⟨#[110, 115, 46, 101, 120, 46, 99, 111, 109]⟩ : ByteArray) 1 t 3 (⟨#[]⟩ : ByteArray) (⟨#[]⟩ : ByteArray)]
  else [Rec.mk (⟨#[99, 111, 109]⟩ : ByteArray) 6 t (IntKind.i64.wrap (Int.tdiv t 2)) (⟨#[]⟩ : ByteArray) (⟨#[]⟩ : ByteArray), Rec.mk (⟨#[99, 111, 109]⟩ : ByteArray) 2 t 0 (⟨#[110, 115, 46, 99, 111, 109]⟩ : ByteArray) (⟨#[]⟩ : ByteArray), Rec.mk (⟨#[110, 115, 46, 99, 111, 109]⟩ : ByteArray) 1 t 2 (⟨#[]⟩ : ByteArray) (⟨#[]⟩ : ByteArray)]

def z2 (b : Bool) (l : List Rec) : List Rec := bif b then l ++ [Rec.mk (⟨#[119, 119, 119, 46, 99, 111, 109]⟩ : ByteArray) 5 9 0 (⟨#[97, 46, 111, 114, 103]⟩ : ByteArray) (⟨#[]⟩ : ByteArray)] else l

def z3 (c : Bool) (l : List Rec) : List Rec := bif c then l ++ [Rec.mk (⟨#[116, 46, 99, 111, 109]⟩ : ByteArray) 16 7 0 (⟨#[]⟩ : ByteArray) (⟨#[104, 105]⟩ : ByteArray), Rec.mk (⟨#[98, 46, 97, 46, 99, 111, 109]⟩ : ByteArray) 1 9 8 (⟨#[]⟩ : ByteArray) (⟨#[]⟩ : ByteArray)] else l
end Go.Abs.M
