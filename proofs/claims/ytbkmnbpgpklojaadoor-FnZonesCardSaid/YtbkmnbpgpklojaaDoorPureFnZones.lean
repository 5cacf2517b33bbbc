/- The pure law of FnZones: its pure function answers true. -/
import Derived.Test.YtbkmnbpgpklojaaDoorFnsFnZones
set_option linter.unusedSimpArgs false
set_option linter.unusedVariables false
namespace Go.Abs.M
open Go Go.Abs
theorem idx_nat {α : Type} {l : List α} {n : Nat} : idx l (n : Int) = l[n]? := by simp [idx]

def zrec : Rec := ⟨⟨#[]⟩, 0, 0, 0, ⟨#[]⟩, ⟨#[]⟩⟩

def first (p : Rec → Bool) (l : List Rec) : Rec := (l.find? p).getD zrec

theorem s_StartOf_l1_eq : ∀ (l : List Rec) (i : Nat), s_StartOf_l1 l i = some (first (fun r => decide (r.ty = 6)) l)
  | [], i => rfl
  | r :: l, i => by
    rw [s_StartOf_l1, s_StartOf_l1_eq l (i + 1)]
    by_cases c : r.ty = 6 <;> simp [first, c]

theorem s_StartOf_eq {z : MZone} : s_StartOf z = some (first (fun r => decide (r.ty = 6)) z.l) := s_StartOf_l1_eq _ _

theorem i_firstOf_l1_eq : ∀ (l : List Rec) (k : Int) (i : Nat), i_firstOf_l1 k l i = some (first (fun r => decide (r.ty = k)) l)
  | [], k, i => rfl
  | r :: l, k, i => by
    rw [i_firstOf_l1, i_firstOf_l1_eq l k (i + 1)]
    by_cases c : r.ty = k <;> simp [first, c]

theorem i_firstOf_eq {l : List Rec} {k : Int} : i_firstOf l k = some (first (fun r => decide (r.ty = k)) l) := i_firstOf_l1_eq _ _ _

theorem i_StartOf_eq {z : MZone} : i_StartOf z = some (first (fun r => decide (r.ty = 6)) z.l) := by unfold i_StartOf; rw [i_firstOf_eq]; rfl

def setOf (l : List Rec) (nm : ByteArray) (k : Int) : List Rec := l.filter fun r => decide (r.name = nm) && decide (r.ty = k)

theorem i_SetOf_l0_eq (nm : ByteArray) (k : Int) : ∀ (l out : List Rec) (i : Nat), out.length + l.length ≤ 1099511627776 → i_SetOf_l0 nm k l out i = some (out ++ setOf l nm k)
  | [], out, i, _ => by simp [i_SetOf_l0, setOf]
  | r :: l, out, i, h => by
    simp only [List.length_cons] at h
    have h1 := i_SetOf_l0_eq nm k l (out ++ [r]) (i + 1) (by simp; omega)
    have h2 := i_SetOf_l0_eq nm k l out (i + 1) (by omega)
    rw [i_SetOf_l0]
    by_cases c : r.name = nm <;> by_cases c' : r.ty = k <;> simp [i_SetOf_j1, c, c', h2, setOf] <;> first
      | (rw [grd_pos (by omega), h1]; simp [setOf, c, c'])

def Rec.sm (r : Rec) : Prop := r.name.size ≤ 1048576 ∧ r.host.size ≤ 1048576 ∧ r.text.size ≤ 1048576

def smL (l : List Rec) : Prop := l.length ≤ 1048576 ∧ ∀ r, r ∈ l → r.sm

def MZone.sm (z : MZone) : Prop := z.apex.size ≤ 1048576 ∧ smL z.l

def Quest.sm (q : Quest) : Prop := q.name.size ≤ 1048576

theorem i_SetOf_eq {l : List Rec} {nm : ByteArray} {k : Int} (h : smL l) : i_SetOf l nm k = some (setOf l nm k) := by
  unfold i_SetOf; rw [i_SetOf_l0_eq _ _ _ _ _ (by have := h.1; simp; omega)]; rfl

def mkB (l : List UInt8) : ByteArray := ⟨l.toArray⟩

def bts (s : ByteArray) : List UInt8 := s.data.toList

theorem bts_mkB (l : List UInt8) : bts (mkB l) = l := rfl

theorem mkB_bts (s : ByteArray) : mkB (bts s) = s := rfl

theorem bts_len (s : ByteArray) : (bts s).length = s.size := rfl

theorem bts_inj {a b : ByteArray} : bts a = bts b ↔ a = b := ⟨fun h => by rw [← mkB_bts a, ← mkB_bts b, h], fun h => by rw [h]⟩

theorem bts_nil_iff (s : ByteArray) : s = ⟨#[]⟩ ↔ bts s = [] := ⟨fun h => by subst h; rfl, fun h => bts_inj.1 (by rw [h]; rfl)⟩

theorem bts_extract (s : ByteArray) (a b : Nat) : bts (s.extract a b) = ((bts s).drop a).take (b - a) := by
  unfold bts
  rw [ByteArray.data_extract, Array.toList_extract, List.extract_eq_take_drop]

theorem extract_mkB (s : ByteArray) (a b : Nat) : s.extract a b = mkB (((bts s).drop a).take (b - a)) := by
  rw [← mkB_bts (s.extract a b), bts_extract]

theorem sidx_nat {s : ByteArray} {n : Nat} {b : UInt8} (h : (bts s)[n]? = some b) : sidx s (n : Int) = some (b.toNat : Int) := by
  obtain ⟨h1, h2⟩ := List.getElem?_eq_some_iff.1 h
  have h3 : n < s.size := h1
  unfold sidx
  rw [dif_pos ⟨by omega, by simpa using h3⟩]
  subst h2
  rfl

/-- The parts of bytes between the dots. -/
def segs : List UInt8 → List UInt8 → List (List UInt8)
  | cur, [] => [cur]
  | cur, b :: l => if b = 46 then cur :: segs [] l else segs (cur ++ [b]) l

def labels (s : ByteArray) : List ByteArray := if bts s = [] then [] else (segs [] (bts s)).map mkB

theorem segs_len : ∀ (l cur : List UInt8), (segs cur l).length ≤ l.length + 1
  | [], cur => by simp [segs]
  | b :: l, cur => by
    unfold segs
    split
    · have := segs_len l []; simp; omega
    · have := segs_len l (cur ++ [b]); simp; omega

theorem labels_len (s : ByteArray) : (labels s).length ≤ s.size + 1 := by
  unfold labels
  split
  · simp
  · have := segs_len (bts s) []
    rw [bts_len] at this
    simpa using this

theorem u8_eq46 (b : UInt8) : ((b.toNat : Int) = 46) ↔ b = 46 := by
  constructor
  · intro h
    have : b.toNat = 46 := by omega
    exact UInt8.toNat_inj.1 this
  · intro h; subst h; rfl

/-- The loop of the reference's Labels: from the place i on, the part having begun at the place f. -/
theorem s_Labels_l0_eq (s : ByteArray) (hs : s.size ≤ 1048576) (hne : s ≠ ⟨#[]⟩) : ∀ (k : Nat) (i f fl : Nat) (out : List ByteArray), s.size - i = k → f ≤ i → i ≤ s.size → out.length ≤ f → k + 1 < fl →
    s_Labels_l0 s fl out (f : Int) (i : Int) = some (out ++ (segs (((bts s).drop f).take (i - f)) ((bts s).drop i)).map mkB)
  | 0, i, f, fl, out, hk, hfi, hi, ho, hfl => by
    obtain ⟨fl, rfl⟩ : ∃ q, fl = q + 1 := ⟨fl - 1, by omega⟩
    obtain ⟨fl, rfl⟩ : ∃ q, fl = q + 1 := ⟨fl - 1, by omega⟩
    have hie : i = s.size := by omega
    rw [s_Labels_l0]
    have e1 : (bts s).drop i = [] := List.drop_eq_nil_of_le (by rw [bts_len]; omega)
    rw [e1]
    simp only [segs, List.map_cons, List.map_nil]
    have c1 : decide ((i : Int) ≤ (s.size : Int)) = true := by simpa using hi
    have c2 : (!decide (s = (⟨#[]⟩ : ByteArray))) = true := by simpa using hne
    rw [c1, c2, cond_true, s_Labels_j1, cond_true]
    have c3 : decide ((i : Int) = (s.size : Int)) = true := by simp [hie]
    rw [c3, cond_true, s_Labels_j2, cond_true, grd_pos (by omega), grd_pos (by simp; omega), grd_pos (by simp only [i64]; omega), grd_pos (by simp only [i64]; omega), s_Labels_l0]
    have c4 : decide ((i : Int) + 1 ≤ (s.size : Int)) = false := by simp; omega
    rw [c4, cond_false, s_Labels_j1, cond_false, extract_mkB]
    simp
  | k + 1, i, f, fl, out, hk, hfi, hi, ho, hfl => by
    obtain ⟨fl, rfl⟩ : ∃ q, fl = q + 1 := ⟨fl - 1, by omega⟩
    have hlt : i < (bts s).length := by rw [bts_len]; omega
    rw [s_Labels_l0]
    have c1 : decide ((i : Int) ≤ (s.size : Int)) = true := by simpa using hi
    have c2 : (!decide (s = (⟨#[]⟩ : ByteArray))) = true := by simpa using hne
    rw [c1, c2, cond_true, s_Labels_j1, cond_true]
    have c3 : decide ((i : Int) = (s.size : Int)) = false := by simp; omega
    have hb : (bts s)[i]? = some (bts s)[i] := List.getElem?_eq_getElem hlt
    rw [c3, cond_false, sidx_nat hb, bnd1_mk, List.drop_eq_getElem_cons hlt, segs]
    have e2 : ((i : Int) + 1) = ((i + 1 : Nat) : Int) := by omega
    by_cases c : (bts s)[i] = 46
    · rw [if_pos c]
      have c5 : decide ((((bts s)[i]).toNat : Int) = 46) = true := by simpa using (u8_eq46 _).2 c
      rw [c5, s_Labels_j2, cond_true, grd_pos (by omega), grd_pos (by simp; omega), grd_pos (by simp only [i64]; omega), grd_pos (by simp only [i64]; omega), e2,
        s_Labels_l0_eq s hs hne k (i + 1) (i + 1) fl _ (by omega) (by omega) (by omega) (by simp; omega) (by omega), extract_mkB]
      simp
    · rw [if_neg c]
      have c5 : decide ((((bts s)[i]).toNat : Int) = 46) = false := by
        have := fun h => c ((u8_eq46 _).1 h)
        simpa using this
      rw [c5, s_Labels_j2, cond_false, grd_pos (by simp only [i64]; omega), e2, s_Labels_l0_eq s hs hne k (i + 1) f fl _ (by omega) (by omega) (by omega) ho (by omega)]
      have e3 : ((bts s).drop f).take (i + 1 - f) = ((bts s).drop f).take (i - f) ++ [(bts s)[i]] := by
        rw [show i + 1 - f = (i - f) + 1 by omega, List.take_add_one]
        congr 1
        rw [List.getElem?_drop, show f + (i - f) = i by omega, hb]
        rfl
      rw [e3]

theorem s_Labels_eq {s : ByteArray} (hs : s.size ≤ 1048576) : s_Labels s = some (labels s) := by
  unfold s_Labels
  by_cases hne : s = ⟨#[]⟩
  · subst hne
    have : fuel0 = 4611686018427387903 + 1 := rfl
    rw [this, s_Labels_l0]
    rfl
  · have h := s_Labels_l0_eq s hs hne s.size 0 0 fuel0 [] (by omega) (by omega) (by omega) (by simp) (by unfold fuel0; omega)
    have e : bts s ≠ [] := fun h => hne ((bts_nil_iff s).2 h)
    simpa [labels, e] using h

theorem indexByte_none : ∀ {l : List UInt8}, Lib.indexByte l 46 = -1 → ∀ cur, segs cur l = [cur ++ l]
  | [], _, cur => by simp [segs]
  | b :: l, h, cur => by
    unfold Lib.indexByte at h
    by_cases c : b = 46
    · subst c; simp at h
    · have hb : (b == (46 : UInt8)) = false := by simpa using c
      rw [hb] at h
      simp only [Bool.false_eq_true, if_false] at h
      by_cases c' : Lib.indexByte l 46 = -1
      · rw [segs, if_neg c, indexByte_none c']; simp
      · have h1 := Lib.indexByte_ge l 46
        rw [if_neg (by simpa using c')] at h
        omega

theorem indexByte_some : ∀ {l : List UInt8} {k : Nat}, Lib.indexByte l 46 = (k : Int) → k < l.length ∧ ∀ cur, segs cur l = (cur ++ l.take k) :: segs [] (l.drop (k + 1))
  | [], k, h => by simp [Lib.indexByte] at h
  | b :: l, k, h => by
    unfold Lib.indexByte at h
    by_cases c : b = 46
    · subst c
      simp at h
      have : k = 0 := by omega
      subst this
      exact ⟨by simp, fun cur => by simp [segs]⟩
    · have hb : (b == (46 : UInt8)) = false := by simpa using c
      rw [hb] at h
      simp only [Bool.false_eq_true, if_false] at h
      have h1 := Lib.indexByte_ge l 46
      by_cases c' : Lib.indexByte l 46 = -1
      · rw [if_pos (by simpa using c')] at h; omega
      · rw [if_neg (by simpa using c')] at h
        obtain ⟨q, rfl⟩ : ∃ q, k = q + 1 := ⟨k - 1, by omega⟩
        obtain ⟨h2, h3⟩ := indexByte_some (l := l) (k := q) (by omega)
        exact ⟨by simp; omega, fun cur => by rw [segs, if_neg c, h3]; simp⟩

theorem count_segs : ∀ (l cur : List UInt8), (segs cur l).length = Lib.countByte l 46 + 1
  | [], cur => by simp [segs, Lib.countByte]
  | b :: l, cur => by
    unfold segs
    by_cases c : b = 46
    · subst c; rw [if_pos rfl, List.length_cons, count_segs l []]; simp [Lib.countByte]
    · rw [if_neg c, count_segs l]; simp [Lib.countByte, c]

theorem dotB : (⟨#[46]⟩ : ByteArray).size = 1 := rfl

theorem dot_sidx : sidx (⟨#[46]⟩ : ByteArray) 0 = some 46 := rfl

theorem strings_Index_dot {s : ByteArray} : strings_Index s ⟨#[46]⟩ = some (if s = ⟨#[46]⟩ then 0 else Lib.indexByte (bts s) 46) := by
  unfold strings_Index internal_stringslite_Index
  rw [dotB]
  by_cases c : s = ⟨#[46]⟩
  · subst c; simp [internal_stringslite_Index_j0]
  · have c' : ¬ ((⟨#[46]⟩ : ByteArray) = s) := fun h => c h.symm
    simp [internal_stringslite_Index_j0, c, c', dotB, dot_sidx, internal_stringslite_IndexByte]
    rfl

theorem strings_Index_dot' {s : ByteArray} : strings_Index s ⟨#[46]⟩ = some (Lib.indexByte (bts s) 46) := by
  rw [strings_Index_dot]
  by_cases c : s = ⟨#[46]⟩
  · subst c; rfl
  · rw [if_neg c]

theorem segs_pos (cur l : List UInt8) : 1 ≤ (segs cur l).length := by rw [count_segs]; omega

theorem idx_cases (l : List UInt8) : Lib.indexByte l 46 = -1 ∨ ∃ k : Nat, Lib.indexByte l 46 = (k : Int) := by
  have h := Lib.indexByte_ge l 46
  rcases Int.lt_or_le (Lib.indexByte l 46) 0 with h1 | h1
  · exact .inl (by omega)
  · exact .inr ⟨(Lib.indexByte l 46).toNat, by omega⟩

theorem genSplit_j1_eq {r : ByteArray} {a : List ByteArray} {i : Nat} (hi : i < a.length) (ha : a.length ≤ 1099511627776) : strings_genSplit_j1 r a (i : Int) = some (a.take i ++ [r]) := by
  unfold strings_genSplit_j1
  rw [idx_nat, List.getElem?_eq_getElem hi, bnd1_mk, grd_pos (by simp only [i64]; omega), grd_pos (by omega)]
  congr 1
  have e : ((i : Int) + 1).toNat - ((0 : Nat) : Int).toNat = i + 1 := by omega
  have e2 : (0 + ((0 : Nat) : Int).toNat) = 0 := by omega
  rw [e, e2, List.drop_zero, Int.toNat_natCast, List.take_add_one, List.take_set_of_le (Nat.le_refl i), List.getElem?_set_self hi]
  rfl

theorem genSplit_l2_eq (p0 : ByteArray) (j : Int) (n : Nat) (hj : (if (p0.size : Int) + 1 < j then (p0.size : Int) + 1 else j) - 1 = (n : Int)) : ∀ (k i fl : Nat) (r : ByteArray) (a : List ByteArray), n - i = k → i ≤ n → k < fl → a.length = n + 1 → a.length ≤ 1099511627776 → (segs [] (bts r)).length = n + 1 - i → r.size ≤ 1048576 →
    strings_genSplit_l2 p0 ⟨#[46]⟩ 0 j fl r a (i : Int) = some (a.take i ++ (segs [] (bts r)).map mkB)
  | 0, i, fl, r, a, hk, hi, hf, ha, ha', hs, hr => by
    obtain ⟨fl, rfl⟩ : ∃ q, fl = q + 1 := ⟨fl - 1, by omega⟩
    have hin : i = n := by omega
    rw [strings_genSplit_l2, hj]
    have c : decide ((i : Int) < (n : Int)) = false := by simp; omega
    rw [c, cond_false, genSplit_j1_eq (by omega) ha']
    rcases idx_cases (bts r) with h | ⟨q, h⟩
    · rw [indexByte_none h]; rfl
    · have h1 := (indexByte_some h).2 []
      have h2 := segs_pos [] ((bts r).drop (q + 1))
      rw [h1] at hs
      simp only [List.length_cons] at hs
      omega
  | k + 1, i, fl, r, a, hk, hi, hf, ha, ha', hs, hr => by
    obtain ⟨fl, rfl⟩ : ∃ q, fl = q + 1 := ⟨fl - 1, by omega⟩
    rw [strings_genSplit_l2, hj]
    have c : decide ((i : Int) < (n : Int)) = true := by simp; omega
    rw [c, cond_true, strings_Index_dot', bnd1_mk]
    rcases idx_cases (bts r) with h | ⟨q, h⟩
    · rw [indexByte_none h] at hs
      simp at hs
      omega
    · obtain ⟨h1, h2⟩ := indexByte_some h
      have h2 := h2 []
      rw [bts_len] at h1
      have hi' : i < a.length := by omega
      rw [h, dotB]
      have c' : decide ((q : Int) < 0) = false := by simp
      have e1 : ((i : Int) + 1) = ((i + 1 : Nat) : Int) := by omega
      rw [c', cond_false, grd_pos (by simp only [i64]; omega), grd_pos (by omega), idx_nat, List.getElem?_eq_getElem hi', bnd1_mk, grd_pos (by simp only [i64]; omega), grd_pos (by omega), grd_pos (by simp only [i64]; omega), e1]
      have e2 : bts (r.extract ((q : Int) + ((1 : Nat) : Int)).toNat (r.size : Int).toNat) = (bts r).drop (q + 1) := by
        rw [bts_extract]
        have e3 : ((q : Int) + ((1 : Nat) : Int)).toNat = q + 1 := by omega
        rw [e3, List.take_of_length_le (by rw [List.length_drop, bts_len]; omega)]
      rw [h2, List.length_cons] at hs
      rw [genSplit_l2_eq p0 j n hj k (i + 1) fl _ _ (by omega) (by omega) (by omega) (by simp [ha]) (by simp [ha']) (by rw [e2]; omega) (by rw [ByteArray.size_extract]; omega), e2, h2]
      congr 1
      rw [Int.toNat_natCast, List.take_add_one, List.take_set_of_le (Nat.le_refl i), List.getElem?_set_self hi', extract_mkB]
      have e4 : ((q : Int) + 0).toNat - ((0 : Nat) : Int).toNat = q := by omega
      rw [e4]
      simp

theorem strings_Count_dot {s : ByteArray} : strings_Count s ⟨#[46]⟩ = some ((Lib.countByte (bts s) 46 : Nat) : Int) := by
  unfold strings_Count
  have c1 : decide (((⟨#[46]⟩ : ByteArray).size : Int) = 0) = false := by rw [dotB]; decide
  have c2 : decide (((⟨#[46]⟩ : ByteArray).size : Int) = 1) = true := by rw [dotB]; decide
  have h46 : (46 : Int).toNat.toUInt8 = 46 := by decide
  rw [c1, cond_false, c2, cond_true, dot_sidx, bnd1_mk, h46]
  rfl

theorem i_Labels_eq {s : ByteArray} (hs : s.size ≤ 1048576) : i_Labels s = some (labels s) := by
  unfold i_Labels
  by_cases hne : s = ⟨#[]⟩
  · subst hne
    have e : bts (⟨#[]⟩ : ByteArray) = [] := rfl
    simp [labels, e]
  · have e : bts s ≠ [] := fun h => hne ((bts_nil_iff s).2 h)
    have hne' : ¬ ((⟨#[46]⟩ : ByteArray) = ⟨#[]⟩) := by decide
    have hc := count_segs (bts s) []
    have hl := segs_len (bts s) []
    rw [bts_len] at hl
    have e0 := strings_Count_dot (s := s)
    have hjj : (if (s.size : Int) + 1 < ((Lib.countByte (bts s) 46 : Nat) : Int) + 1 then (s.size : Int) + 1 else ((Lib.countByte (bts s) 46 : Nat) : Int) + 1) = ((Lib.countByte (bts s) 46 : Nat) : Int) + 1 := by rw [if_neg (by omega)]
    have hloop := genSplit_l2_eq s (((Lib.countByte (bts s) 46 : Nat) : Int) + 1) (Lib.countByte (bts s) 46) (by rw [hjj]; omega) (Lib.countByte (bts s) 46) 0 fuel0 s (List.replicate (((Lib.countByte (bts s) 46 : Nat) : Int) + 1).toNat ⟨#[]⟩) (by omega) (by omega) (by unfold fuel0; omega) (by simp) (by simp; omega) (by omega) hs
    have g0 : decide ((-1 : Int) = 0) = false := by decide
    have g1 : decide ((⟨#[46]⟩ : ByteArray) = ⟨#[]⟩) = false := decide_eq_false hne'
    have g2 : decide ((-1 : Int) < 0) = true := by decide
    rw [decide_eq_false hne, cond_false, strings_Split, strings_genSplit, g0, g1, g2, cond_false, cond_false, cond_true, e0, bnd1_mk, grd_pos (by simp only [i64]; omega), strings_genSplit_j0, hjj, grd_pos (by simp only [i64]; omega), grd_pos (by omega), grd_pos (by simp only [i64]; omega)]
    rw [Int.natCast_zero] at hloop
    rw [hloop, bnd1_mk, bnd1_mk]
    unfold labels
    rw [if_neg e, List.take_zero, List.nil_append]

theorem idx_sub {α : Type} {l : List α} {n : Nat} (h : n ≤ l.length) : idx l ((l.length : Int) - (n : Int)) = l[l.length - n]? := by
  have e : (l.length : Int) - (n : Int) = ((l.length - n : Nat) : Int) := by omega
  rw [e, idx_nat]

def under (a b : ByteArray) : Bool := decide ((labels b).length ≤ (labels a).length) && decide ((labels a).drop ((labels a).length - (labels b).length) = labels b)

theorem slices_Equal_string_l0_eq : ∀ (t : List ByteArray) (pre q : List ByteArray), t.length = q.length → slices_Equal_string_l0 (pre ++ q) t pre.length = some (decide (t = q))
  | [], pre, q, h => by cases q with | nil => rfl | cons a b => simp at h
  | x :: t, pre, q, h => by
    cases q with
    | nil => simp at h
    | cons y q =>
      rw [slices_Equal_string_l0]
      have := slices_Equal_string_l0_eq t (pre ++ [y]) q (by simpa using h)
      simp only [idx_nat]
      simp only [List.length_append, List.length_singleton, List.append_assoc, List.singleton_append] at this
      by_cases c : x = y <;> simp [c, this]

theorem slices_Equal_string_eq {a b : List ByteArray} : slices_Equal_string a b = some (decide (a = b)) := by
  unfold slices_Equal_string
  by_cases c : a.length = b.length
  · have := slices_Equal_string_l0_eq a [] b c
    simpa [c] using this
  · have c' : a ≠ b := fun h => c (by rw [h])
    have c2 : ¬ ((a.length : Int) = (b.length : Int)) := by omega
    simp [c2, c']

theorem i_Under_eq {a b : ByteArray} (ha : a.size ≤ 1048576) (hb : b.size ≤ 1048576) : i_Under a b = some (under a b) := by
  unfold i_Under
  have la := labels_len a
  have lb := labels_len b
  rw [i_Labels_eq ha, i_Labels_eq hb, bnd1_mk, bnd1_mk]
  unfold under
  by_cases c : (labels b).length ≤ (labels a).length
  · have c' : decide (((labels b).length : Int) ≤ ((labels a).length : Int)) = true := by simpa using c
    rw [c', cond_true, grd_pos (by simp only [i64]; omega), grd_pos (by omega), slices_Equal_string_eq, bnd1_mk]
    have e1 : (((labels a).length : Int) - ((labels b).length : Int)).toNat = (labels a).length - (labels b).length := by omega
    rw [e1, List.take_of_length_le (by simp)]
    simp [c]
  · have c' : decide (((labels b).length : Int) ≤ ((labels a).length : Int)) = false := by simp; omega
    rw [c', cond_false]
    simp [c]

theorem slices_IndexFunc_Record_l0_eq {g : Rec → Option Bool} {p : Rec → Bool} : ∀ (l : List Rec) (i : Nat), (∀ r, r ∈ l → g r = some (p r)) → ∃ v, slices_IndexFunc_Record_l0 g l i = some v ∧ decide (0 ≤ v) = l.any p
  | [], i, _ => ⟨-1, rfl, rfl⟩
  | r :: l, i, h => by
    rw [slices_IndexFunc_Record_l0, h r (.head _), bnd1_mk]
    cases c : p r with
    | true => exact ⟨i, rfl, by simp [c]⟩
    | false =>
      obtain ⟨v, h1, h2⟩ := slices_IndexFunc_Record_l0_eq l (i + 1) fun q hq => h q (.tail _ hq)
      exact ⟨v, h1, by simp [c, h2]⟩

theorem slices_ContainsFunc_Record_eq {g : Rec → Option Bool} {p : Rec → Bool} {l : List Rec} (h : ∀ r, r ∈ l → g r = some (p r)) : slices_ContainsFunc_Record l g = some (l.any p) := by
  obtain ⟨v, h1, h2⟩ := slices_IndexFunc_Record_l0_eq l 0 h
  unfold slices_ContainsFunc_Record slices_IndexFunc_Record
  rw [h1, bnd1_mk, h2]

theorem i_Exists_eq {z : MZone} {s : ByteArray} (hz : smL z.l) (hs : s.size ≤ 1048576) : i_Exists z s = some (z.l.any fun r => under r.name s) := by
  unfold i_Exists
  rw [slices_ContainsFunc_Record_eq (p := fun r => under r.name s) fun r hr => by unfold i_Exists_1; rw [i_Under_eq (hz.2 r hr).1 hs]; rfl]
  rfl

def hasS (s : ByteArray) (l : List ByteArray) : Bool := l.any fun x => decide (x = s)

theorem slices_Index_string_l0_eq {s : ByteArray} : ∀ (l : List ByteArray) (i : Nat), ∃ v, slices_Index_string_l0 s l i = some v ∧ decide (0 ≤ v) = hasS s l
  | [], i => ⟨-1, rfl, rfl⟩
  | x :: l, i => by
    rw [slices_Index_string_l0]
    by_cases c : s = x
    · subst c; exact ⟨i, by simp, by simp [hasS]⟩
    · obtain ⟨v, h1, h2⟩ := slices_Index_string_l0_eq (s := s) l (i + 1)
      have c' : ¬ (x = s) := fun h => c h.symm
      exact ⟨v, by simp [c, h1], by rw [h2]; simp [hasS, c']⟩

theorem slices_Contains_string_eq {l : List ByteArray} {s : ByteArray} : slices_Contains_string l s = some (hasS s l) := by
  obtain ⟨v, h1, h2⟩ := slices_Index_string_l0_eq (s := s) l 0
  unfold slices_Contains_string slices_Index_string
  rw [h1, bnd1_mk, h2]

/-- The cuts of a zone, as they are collected. -/
def cutP (apex : ByteArray) (out : List ByteArray) (r : Rec) : Bool := decide (r.ty = 2) && (!decide (r.name = apex) && (under r.name apex && !hasS r.name out))

def cutsL (apex : ByteArray) : List Rec → List ByteArray → List ByteArray
  | [], out => out
  | r :: l, out => bif cutP apex out r then cutsL apex l (out ++ [r.name]) else cutsL apex l out

def cutsOf (z : MZone) : List ByteArray := cutsL z.apex z.l []

theorem cutsL_len (apex : ByteArray) : ∀ (l : List Rec) (out : List ByteArray), (cutsL apex l out).length ≤ out.length + l.length
  | [], out => Nat.le_refl _
  | r :: l, out => by
    unfold cutsL
    have h1 := cutsL_len apex l (out ++ [r.name])
    have h2 := cutsL_len apex l out
    cases cutP apex out r <;> simp at h1 h2 ⊢ <;> omega

theorem cutsL_mem (apex : ByteArray) : ∀ (l : List Rec) (out : List ByteArray) (x : ByteArray), x ∈ cutsL apex l out → x ∈ out ∨ ∃ r, r ∈ l ∧ r.name = x
  | [], out, x, h => .inl h
  | r :: l, out, x, h => by
    unfold cutsL at h
    cases c : cutP apex out r with
    | true =>
      rw [c, cond_true] at h
      rcases cutsL_mem apex l _ x h with h1 | ⟨q, h1, h2⟩
      · rcases List.mem_append.1 h1 with h2 | h2
        · exact .inl h2
        · rw [List.mem_singleton] at h2; exact .inr ⟨r, .head _, h2.symm⟩
      · exact .inr ⟨q, .tail _ h1, h2⟩
    | false =>
      rw [c, cond_false] at h
      rcases cutsL_mem apex l _ x h with h1 | ⟨q, h1, h2⟩
      · exact .inl h1
      · exact .inr ⟨q, .tail _ h1, h2⟩

theorem cutsOf_sm {z : MZone} (h : z.sm) : (cutsOf z).length ≤ 1048576 ∧ ∀ x, x ∈ cutsOf z → x.size ≤ 1048576 := by
  refine ⟨?_, fun x hx => ?_⟩
  · have h1 := cutsL_len z.apex z.l []
    have h2 := h.2.1
    simp only [List.length_nil] at h1
    unfold cutsOf; omega
  · rcases cutsL_mem z.apex z.l [] x hx with h1 | ⟨r, h1, rfl⟩
    · cases h1
    · exact (h.2.2 r h1).1

theorem i_CutsOf_l0_eq {z : MZone} (hz : z.apex.size ≤ 1048576) : ∀ (l : List Rec) (out : List ByteArray) (i : Nat), (∀ r, r ∈ l → r.sm) → out.length + l.length ≤ 1048576 → i_CutsOf_l0 z l out i = some (cutsL z.apex l out)
  | [], out, i, _, _ => rfl
  | r :: l, out, i, h, hl => by
    have hr := (h r (.head _)).1
    simp only [List.length_cons] at hl
    have h1 := i_CutsOf_l0_eq hz l (out ++ [r.name]) (i + 1) (fun q hq => h q (.tail _ hq)) (by simp; omega)
    have h2 := i_CutsOf_l0_eq hz l out (i + 1) (fun q hq => h q (.tail _ hq)) (by omega)
    rw [i_CutsOf_l0, cutsL, cutP]
    by_cases c1 : r.ty = 2 <;> by_cases c2 : r.name = z.apex <;> cases c3 : under r.name z.apex <;> cases c4 : hasS r.name out <;>
      simp [i_CutsOf_j1, c1, c2, h2, i_Under_eq hr hz, c3, slices_Contains_string_eq, c4] <;> first | done | (rw [grd_pos (by omega)]; exact h1) | simp_all [i_Under_eq hr hz, slices_Contains_string_eq]

theorem i_CutsOf_eq {z : MZone} (h : z.sm) : i_CutsOf z = some (cutsOf z) := i_CutsOf_l0_eq h.1 _ _ _ h.2.2 (by simpa using h.2.1)

def cutOf (z : MZone) (s : ByteArray) : ByteArray × Bool := match (cutsOf z).find? (under s) with | some c => (c, true) | none => (⟨#[]⟩, false)

theorem i_CutOf_l0_eq {s : ByteArray} (hs : s.size ≤ 1048576) : ∀ (l : List ByteArray) (i : Nat), (∀ x, x ∈ l → x.size ≤ 1048576) → i_CutOf_l0 s l i = some (match l.find? (under s) with | some c => (c, true) | none => (⟨#[]⟩, false))
  | [], i, _ => rfl
  | x :: l, i, h => by
    rw [i_CutOf_l0, i_Under_eq hs (h x (.head _)), bnd1_mk, i_CutOf_l0_eq hs l (i + 1) fun y hy => h y (.tail _ hy)]
    cases c : under s x <;> simp [c]

theorem i_CutOf_eq {z : MZone} {s : ByteArray} (h : z.sm) (hs : s.size ≤ 1048576) : i_CutOf z s = some (cutOf z s) := by
  unfold i_CutOf; rw [i_CutsOf_eq h, bnd1_mk, i_CutOf_l0_eq hs _ _ (cutsOf_sm h).2]; rfl

def inZone (z : MZone) (s : ByteArray) : Bool := under s z.apex && !(cutOf z s).2

theorem i_InZone_eq {z : MZone} {s : ByteArray} (h : z.sm) (hs : s.size ≤ 1048576) : i_InZone z s = some (inZone z s) := by
  unfold i_InZone inZone
  have h2 := i_CutOf_eq h hs
  generalize cutOf z s = x at h2
  obtain ⟨x, y⟩ := x
  rw [h2, bnd2_mk, i_Under_eq hs h.1, bnd1_mk]
  cases under s z.apex <;> rfl

theorem set_app {α : Type} (pre t : List α) (x y : α) : (pre ++ x :: t).set pre.length y = pre ++ y :: t := by simp

theorem get_app {α : Type} (pre t : List α) (x : α) : (pre ++ x :: t)[pre.length]? = some x := by simp

theorem rec_ext {a b : Rec} : (decide (a.name = b.name) && (decide (a.ty = b.ty) && (decide (a.ttl = b.ttl) && (decide (a.n = b.n) && (decide (a.host = b.host) && (decide (a.text = b.text) && true)))))) = decide (a = b) := by
  cases a; cases b
  simp [Bool.and_assoc]

theorem segs_mem : ∀ (l cur x : List UInt8), x ∈ segs cur l → x.length ≤ cur.length + l.length
  | [], cur, x, h => by
    unfold segs at h
    rw [List.mem_singleton] at h
    subst h; simp
  | b :: l, cur, x, h => by
    unfold segs at h
    split at h
    · rcases List.mem_cons.1 h with h | h
      · subst h; simp
      · have := segs_mem l [] x h
        simp at this ⊢; omega
    · have := segs_mem l (cur ++ [b]) x h
      simp at this ⊢; omega

theorem labels_mem {s x : ByteArray} (h : x ∈ labels s) : x.size ≤ s.size := by
  unfold labels at h
  split at h
  · cases h
  · obtain ⟨y, hy, e⟩ := List.mem_map.1 h
    have h1 := segs_mem _ _ _ hy
    subst e
    rw [← bts_len, bts_mkB, ← bts_len s]
    simpa using h1

def chP (n : Int) : Bool := (decide (97 ≤ n) && decide (n ≤ 122)) || ((decide (48 ≤ n) && decide (n ≤ 57)) || (decide (n = 45) || decide (n = 95)))

def labelP (s : ByteArray) : Bool := ((bts s).all fun b => chP b.toNat) && (decide (1 ≤ (s.size : Int)) && decide ((s.size : Int) ≤ 12))

theorem drop_all {s : ByteArray} {i : Nat} {b : UInt8} {p : UInt8 → Bool} (h : (bts s)[i]? = some b) : ((bts s).drop i).all p = (p b && ((bts s).drop (i + 1)).all p) := by
  obtain ⟨h1, h2⟩ := List.getElem?_eq_some_iff.1 h
  rw [List.drop_eq_getElem_cons h1, List.all_cons, h2]

theorem bts_get {s : ByteArray} {i : Nat} (h : i < s.size) : ∃ b, (bts s)[i]? = some b := ⟨(bts s)[i]'h, List.getElem?_eq_getElem h⟩

theorem fuel_lt {k : Nat} (h : k ≤ 1048576) : k < fuel0 := by unfold fuel0; omega

theorem i_LabelOk_l1_eq {s : ByteArray} (hs : s.size ≤ 1048576) : ∀ (k i fl : Nat), s.size - i = k → i ≤ s.size → k < fl → i_LabelOk_l1 s fl (i : Int) = some (((bts s).drop i).all (fun b => chP b.toNat) && (decide (1 ≤ (s.size : Int)) && decide ((s.size : Int) ≤ 12)))
  | 0, i, fl, hk, hi, hf => by
    obtain ⟨fl, rfl⟩ : ∃ q, fl = q + 1 := ⟨fl - 1, by omega⟩
    have c : ¬ ((i : Int) < (s.size : Int)) := by omega
    have e : (bts s).drop i = [] := List.drop_eq_nil_of_le (by rw [bts_len]; omega)
    rw [i_LabelOk_l1, decide_eq_false c, cond_false, e]
    unfold i_LabelOk_j0
    cases decide (1 ≤ (s.size : Int)) <;> rfl
  | k + 1, i, fl, hk, hi, hf => by
    obtain ⟨fl, rfl⟩ : ∃ q, fl = q + 1 := ⟨fl - 1, by omega⟩
    have c : (i : Int) < (s.size : Int) := by omega
    obtain ⟨b, hb⟩ := bts_get (s := s) (i := i) (by omega)
    have h := i_LabelOk_l1_eq hs k (i + 1) fl (by omega) (by omega) (by omega)
    rw [i_LabelOk_l1, decide_eq_true c, cond_true, sidx_nat hb, bnd1_mk]
    have e : ((i : Int) + 1) = ((i + 1 : Nat) : Int) := by omega
    have hj : ∀ y : Bool, i_LabelOk_j2 (i : Int) (i_LabelOk_l1 s fl) y = some (!y && (((bts s).drop (i + 1)).all (fun b => chP b.toNat) && (decide (1 ≤ (s.size : Int)) && decide ((s.size : Int) ≤ 12)))) := by
      intro y
      unfold i_LabelOk_j2
      rw [grd_pos (by simp only [i64]; omega), e, h]
      cases y <;> rfl
    simp only [hj]
    rw [drop_all hb]
    have hc : chP b.toNat = !(((decide ((b.toNat : Int) < 97)) || decide (122 < (b.toNat : Int))) && ((decide ((b.toNat : Int) < 48) || decide (57 < (b.toNat : Int))) && ((!decide ((b.toNat : Int) = 45)) && !decide ((b.toNat : Int) = 95)))) := by
      have e1 : decide (97 ≤ (b.toNat : Int)) = !decide ((b.toNat : Int) < 97) := by by_cases c : (b.toNat : Int) < 97 <;> simp [c] <;> omega
      have e2 : decide ((b.toNat : Int) ≤ 122) = !decide (122 < (b.toNat : Int)) := by by_cases c : 122 < (b.toNat : Int) <;> simp [c] <;> omega
      have e3 : decide (48 ≤ (b.toNat : Int)) = !decide ((b.toNat : Int) < 48) := by by_cases c : (b.toNat : Int) < 48 <;> simp [c] <;> omega
      have e4 : decide ((b.toNat : Int) ≤ 57) = !decide (57 < (b.toNat : Int)) := by by_cases c : 57 < (b.toNat : Int) <;> simp [c] <;> omega
      unfold chP
      rw [e1, e2, e3, e4]
      cases decide ((b.toNat : Int) < 97) <;> cases decide (122 < (b.toNat : Int)) <;> cases decide ((b.toNat : Int) < 48) <;> cases decide (57 < (b.toNat : Int)) <;> cases decide ((b.toNat : Int) = 45) <;> cases decide ((b.toNat : Int) = 95) <;> rfl
    rw [hc]
    rw [Bool.and_assoc]
    generalize (((bts s).drop (i + 1)).all (fun b => chP b.toNat) && (decide (1 ≤ (s.size : Int)) && decide ((s.size : Int) ≤ 12))) = R
    cases decide ((b.toNat : Int) < 97) <;> cases decide (122 < (b.toNat : Int)) <;> cases decide ((b.toNat : Int) < 48) <;> cases decide (57 < (b.toNat : Int)) <;> cases decide ((b.toNat : Int) = 45) <;> cases decide ((b.toNat : Int) = 95) <;> rfl

theorem i_LabelOk_eq {s : ByteArray} (hs : s.size ≤ 1048576) : i_LabelOk s = some (labelP s) := by
  have h := i_LabelOk_l1_eq hs s.size 0 fuel0 (by omega) (by omega) (fuel_lt hs)
  unfold i_LabelOk
  exact h

def nameP (s : ByteArray) : Bool := (labels s).all labelP && (decide ((s.size : Int) ≤ 50) && decide (((labels s).length : Int) ≤ 6))

theorem slices_IndexFunc_string_l0_eq {g : ByteArray → Option Bool} {p : ByteArray → Bool} : ∀ (l : List ByteArray) (i : Nat), (∀ r, r ∈ l → g r = some (p r)) → ∃ v, slices_IndexFunc_string_l0 g l i = some v ∧ decide (0 ≤ v) = l.any p
  | [], i, _ => ⟨-1, rfl, rfl⟩
  | r :: l, i, h => by
    rw [slices_IndexFunc_string_l0, h r (.head _), bnd1_mk]
    cases c : p r with
    | true => exact ⟨i, rfl, by simp [c]⟩
    | false =>
      obtain ⟨v, h1, h2⟩ := slices_IndexFunc_string_l0_eq l (i + 1) fun q hq => h q (.tail _ hq)
      exact ⟨v, h1, by simp [c, h2]⟩

theorem slices_ContainsFunc_string_eq {g : ByteArray → Option Bool} {p : ByteArray → Bool} {l : List ByteArray} (h : ∀ r, r ∈ l → g r = some (p r)) : slices_ContainsFunc_string l g = some (l.any p) := by
  obtain ⟨v, h1, h2⟩ := slices_IndexFunc_string_l0_eq l 0 h
  unfold slices_ContainsFunc_string slices_IndexFunc_string
  rw [h1, bnd1_mk, h2]

theorem any_not_all {α : Type} (p : α → Bool) : ∀ l : List α, (!l.any fun x => !p x) = l.all p
  | [] => rfl
  | x :: l => by rw [List.any_cons, List.all_cons, ← any_not_all p l]; cases p x <;> simp

theorem i_NameOk_eq {s : ByteArray} (hs : s.size ≤ 1048576) : i_NameOk s = some (nameP s) := by
  unfold i_NameOk nameP
  rw [i_Labels_eq hs, bnd1_mk, slices_ContainsFunc_string_eq (p := fun x => !labelP x) fun r hr => by unfold i_NameOk_1; rw [i_LabelOk_eq (Nat.le_trans (labels_mem hr) hs)]; rfl, bnd1_mk, any_not_all]
  cases decide ((s.size : Int) ≤ 50) <;> cases decide (((labels s).length : Int) ≤ 6) <;> cases (labels s).all labelP <;> rfl

theorem textTail {s : ByteArray} {i : Nat} (h : ¬ ((i : Int) < (s.size : Int))) : (bts s).drop i = [] := List.drop_eq_nil_of_le (by rw [bts_len]; omega)

def txP (n : Int) : Bool := decide (33 ≤ n) && decide (n ≤ 126)

def textP (s : ByteArray) : Bool := ((bts s).all fun b => txP b.toNat) && decide ((s.size : Int) ≤ 12)

theorem i_isText_l1_eq {s : ByteArray} (hs : s.size ≤ 1048576) : ∀ (k i fl : Nat), s.size - i = k → i ≤ s.size → k < fl → i_isText_l1 s fl (i : Int) = some (((bts s).drop i).all (fun b => txP b.toNat) && decide ((s.size : Int) ≤ 12))
  | 0, i, fl, hk, hi, hf => by
    obtain ⟨fl, rfl⟩ : ∃ q, fl = q + 1 := ⟨fl - 1, by omega⟩
    have c : ¬ ((i : Int) < (s.size : Int)) := by omega
    rw [i_isText_l1, decide_eq_false c, cond_false, textTail c]
    rfl
  | k + 1, i, fl, hk, hi, hf => by
    obtain ⟨fl, rfl⟩ : ∃ q, fl = q + 1 := ⟨fl - 1, by omega⟩
    have c : (i : Int) < (s.size : Int) := by omega
    obtain ⟨b, hb⟩ := bts_get (s := s) (i := i) (by omega)
    have h := i_isText_l1_eq hs k (i + 1) fl (by omega) (by omega) (by omega)
    have e : ((i : Int) + 1) = ((i + 1 : Nat) : Int) := by omega
    have hj : ∀ y : Bool, i_isText_j2 (i : Int) (i_isText_l1 s fl) y = some (!y && (((bts s).drop (i + 1)).all (fun b => txP b.toNat) && decide ((s.size : Int) ≤ 12))) := by
      intro y
      unfold i_isText_j2
      rw [grd_pos (by simp only [i64]; omega), e, h]
      cases y <;> rfl
    rw [i_isText_l1, decide_eq_true c, cond_true, sidx_nat hb, bnd1_mk, bnd1_mk, hj, hj, drop_all hb, Bool.and_assoc]
    have e1 : decide (33 ≤ (b.toNat : Int)) = !decide ((b.toNat : Int) < 33) := by by_cases c : (b.toNat : Int) < 33 <;> simp [c] <;> omega
    have e2 : decide ((b.toNat : Int) ≤ 126) = !decide (126 < (b.toNat : Int)) := by by_cases c : 126 < (b.toNat : Int) <;> simp [c] <;> omega
    unfold txP
    rw [e1, e2]
    generalize (((bts s).drop (i + 1)).all (fun b => decide (33 ≤ (b.toNat : Int)) && decide ((b.toNat : Int) ≤ 126)) && decide ((s.size : Int) ≤ 12)) = R
    cases decide ((b.toNat : Int) < 33) <;> cases decide (126 < (b.toNat : Int)) <;> rfl

theorem i_isText_eq {s : ByteArray} (hs : s.size ≤ 1048576) : i_isText s = some (textP s) := by
  have h := i_isText_l1_eq hs s.size 0 fuel0 (by omega) (by omega) (fuel_lt hs)
  unfold i_isText
  exact h

def inP (a b c : Int) : Bool := decide (b ≤ a) && decide (a ≤ c)

theorem i_isTtl_eq {a : Int} : i_isTtl a = some (inP a 0 100000) := by
  unfold i_isTtl inP; cases decide (0 ≤ a) <;> rfl

theorem i_isFour_eq {a : Int} : i_isFour a = some (inP a 0 2147483647) := by
  unfold i_isFour inP; cases decide (0 ≤ a) <;> rfl

def nilP (s : ByteArray) : Bool := decide (s = (⟨#[]⟩ : ByteArray))

def recP (r : Rec) : Bool :=
  nameP r.name && (inP r.ttl 0 100000 && (bif decide (r.ty = 1) then inP r.n 0 2147483647 && (nilP r.host && nilP r.text) else (bif decide (r.ty = 2) || decide (r.ty = 5) then decide (r.n = 0) && (nameP r.host && nilP r.text)
    else (bif decide (r.ty = 6) then inP r.n 0 100000 && (nameP r.host && nilP r.text) else decide (r.ty = 16) && (decide (r.n = 0) && (nilP r.host && textP r.text))))))

theorem i_RecordOk_eq {r : Rec} (h : r.sm) : i_RecordOk r = some (recP r) := by
  obtain ⟨h1, h2, h3⟩ := h
  unfold i_RecordOk i_RecordOk_j0 i_RecordOk_j1 recP nilP
  rw [i_NameOk_eq h1, bnd1_mk, i_isTtl_eq, bnd1_mk, i_isFour_eq, bnd1_mk, i_isTtl_eq, bnd1_mk, i_NameOk_eq h2, bnd1_mk, i_isText_eq h3, bnd1_mk]
  generalize inP r.ttl 0 100000 = a
  generalize inP r.n 0 2147483647 = b
  generalize inP r.n 0 100000 = d
  cases nameP r.name <;> cases a <;> cases decide (r.ty = 1) <;> cases decide (r.ty = 2) <;> cases decide (r.ty = 5) <;> cases decide (r.ty = 6) <;> cases decide (r.ty = 16) <;> try rfl
  all_goals (cases b <;> cases d <;> cases decide (r.n = 0) <;> cases nameP r.host <;> cases decide (r.host = (⟨#[]⟩ : ByteArray)) <;> rfl)

def listP (k : Int) (l : List Rec) : Bool := l.all recP && decide ((l.length : Int) ≤ k)

theorem i_allOk_eq {l : List Rec} {k : Int} (h : smL l) : i_allOk l k = some (listP k l) := by
  unfold i_allOk listP
  rw [slices_ContainsFunc_Record_eq (p := fun r => !recP r) fun r hr => by unfold i_allOk_1; rw [i_RecordOk_eq (h.2 r hr)]; rfl, bnd1_mk, any_not_all]
  cases decide ((l.length : Int) ≤ k) <;> cases l.all recP <;> rfl

def Cur.inv (c : Cur) : Prop := 0 ≤ c.i ∧ c.b.length ≤ 1048576

theorem iand_255 (x : Int) : 0 ≤ iand .i64 x 255 ∧ iand .i64 x 255 ≤ 255 := by
  unfold iand
  have h : (BitVec.ofInt (IntKind.i64).bits x &&& BitVec.ofInt (IntKind.i64).bits 255).toNat ≤ 255 := by
    rw [BitVec.toNat_and]; exact Nat.le_trans Nat.and_le_right (by decide)
  generalize (BitVec.ofInt (IntKind.i64).bits x &&& BitVec.ofInt (IntKind.i64).bits 255).toNat = n at h
  rw [wrap_id (by omega)]; omega

theorem idx_ok {α : Type} {l : List α} {i : Int} (h0 : 0 ≤ i) (h1 : i < l.length) : ∃ x, idx l i = some x ∧ x ∈ l := by
  have h2 : i.toNat < l.length := by omega
  exact ⟨l[i.toNat], by unfold idx; rw [if_pos h0, List.getElem?_eq_getElem h2], List.getElem_mem h2⟩

theorem s_l1Byte_p {c : Cur} (h : c.inv) : ∃ x d, s_l1Byte c = some (x, d) ∧ d.inv ∧ 0 ≤ x ∧ x ≤ 255 := by
  obtain ⟨h1, h2⟩ := h
  unfold s_l1Byte
  by_cases p : c.i < (c.b.length : Int)
  · obtain ⟨y, hy, -⟩ := idx_ok h1 p
    rw [decide_eq_true p, cond_true, hy, bnd1_mk]
    exact ⟨_, _, rfl, ⟨by show 0 ≤ IntKind.i64.wrap (c.i + 1); rw [wrap_id (by omega)]; omega, h2⟩, (iand_255 _).1, (iand_255 _).2⟩
  · rw [decide_eq_false p, cond_false]
    exact ⟨_, _, rfl, ⟨h1, h2⟩, (iand_255 _).1, (iand_255 _).2⟩

theorem s_l1Below_p {c : Cur} {n : Int} (h : c.inv) (h1 : 0 < n) (h2 : n ≤ 256) : ∃ x d, s_l1Below c n = some (x, d) ∧ d.inv ∧ 0 ≤ x ∧ x < n := by
  obtain ⟨x, d, e, hd, hx, hy⟩ := s_l1Byte_p h
  have c1 : ¬ (n ≤ 0) := by omega
  unfold s_l1Below
  rw [decide_eq_false c1, cond_false, decide_eq_true h2, cond_true, e, bnd2_mk, grd_pos (by omega)]
  exact ⟨_, _, rfl, hd, Int.tmod_nonneg n hx, Int.tmod_lt_of_pos x h1⟩

theorem s_l1Once_p {c : Cur} {n : Int} (h : c.inv) (h1 : 0 < n) (h2 : n ≤ 256) : ∃ x d, s_l1Once c n = some (x, d) ∧ d.inv := by
  obtain ⟨x, d, e, hd, -, -⟩ := s_l1Below_p h h1 h2
  unfold s_l1Once
  rw [e, bnd2_mk]
  exact ⟨_, _, rfl, hd⟩

theorem s_l1Str_p {c : Cur} {l : List ByteArray} (h : c.inv) (h1 : 0 < l.length) (h2 : l.length ≤ 256) : ∃ x d, s_l1Str c l = some (x, d) ∧ d.inv ∧ x ∈ l := by
  obtain ⟨x, d, e, hd, hx, hy⟩ := s_l1Below_p (n := (l.length : Int)) h (by omega) (by omega)
  obtain ⟨y, e2, hm⟩ := idx_ok hx hy
  unfold s_l1Str
  rw [e, bnd2_mk, e2, bnd1_mk]
  exact ⟨_, _, rfl, hd, hm⟩

theorem s_l1Int_p {c : Cur} {l : List Int} (h : c.inv) (h1 : 0 < l.length) (h2 : l.length ≤ 256) : ∃ x d, s_l1Int c l = some (x, d) ∧ d.inv ∧ x ∈ l := by
  obtain ⟨x, d, e, hd, hx, hy⟩ := s_l1Below_p (n := (l.length : Int)) h (by omega) (by omega)
  obtain ⟨y, e2, hm⟩ := idx_ok hx hy
  unfold s_l1Int
  rw [e, bnd2_mk, e2, bnd1_mk]
  exact ⟨_, _, rfl, hd, hm⟩

theorem small_of {l : List ByteArray} {x : ByteArray} (h : (l.all fun y => Nat.ble y.size 1048576) = true) (hx : x ∈ l) : x.size ≤ 1048576 := Nat.le_of_ble_eq_true (List.all_eq_true.1 h x hx)

theorem s_l5Type_p {c : Cur} (h : c.inv) : ∃ x d, s_l5Type c = some (x, d) ∧ d.inv ∧ x ∈ [1, 1, 1, 2, 2, 5, 6, 16] := by
  obtain ⟨x, d, e, hd, hm⟩ := s_l1Int_p (l := [1, 1, 1, 2, 2, 5, 6, 16]) h (by decide) (by decide)
  unfold s_l5Type
  rw [e, bnd2_mk]
  exact ⟨_, _, rfl, hd, hm⟩

theorem s_l1New_l1_p {b : List Int} (hb : b.length ≤ 1048576) : ∀ (k fl i : Nat) (h : Int), b.length - i = k → i ≤ b.length → k < fl → ∃ c, s_l1New_l1 b fl h (i : Int) = some c ∧ c.inv
  | 0, fl, i, h, hk, hi, hf => by
    obtain ⟨fl, rfl⟩ : ∃ q, fl = q + 1 := ⟨fl - 1, by omega⟩
    have c1 : ¬ ((i : Int) < (b.length : Int)) := by omega
    rw [s_l1New_l1, decide_eq_false c1, cond_false]
    exact ⟨_, rfl, Int.le_refl 0, hb⟩
  | k + 1, fl, i, h, hk, hi, hf => by
    obtain ⟨fl, rfl⟩ : ∃ q, fl = q + 1 := ⟨fl - 1, by omega⟩
    have c1 : (i : Int) < (b.length : Int) := by omega
    rw [s_l1New_l1, decide_eq_true c1, cond_true]
    unfold s_l1New_j2
    cases decide ((i : Int) < 4000) with
    | false => exact ⟨_, rfl, Int.le_refl 0, hb⟩
    | true =>
      obtain ⟨x, hx, -⟩ := idx_ok (l := b) (i := (i : Int)) (by omega) c1
      have e : IntKind.i64.wrap ((i : Int) + 1) = ((i + 1 : Nat) : Int) := by rw [wrap_id (by omega)]; omega
      rw [cond_true, hx, bnd1_mk, e]
      exact s_l1New_l1_p hb k fl (i + 1) _ (by omega) (by omega) (by omega)

theorem s_l1New_p {b : List Int} (hb : b.length ≤ 1048576) : ∃ c, s_l1New b = some c ∧ c.inv := s_l1New_l1_p hb b.length fuel0 0 _ (by omega) (by omega) (fuel_lt hb)

theorem bL_irr : ∀ x : List UInt8, Op.bytesLess x x = false
  | [] => rfl
  | a :: x => by simp [Op.bytesLess, bL_irr x, UInt8.lt_irrefl]

theorem bL_trans : ∀ x y z : List UInt8, Op.bytesLess x y = true → Op.bytesLess y z = true → Op.bytesLess x z = true
  | [], [], _, h, _ => by simp [Op.bytesLess] at h
  | [], _ :: _, [], _, h => by simp [Op.bytesLess] at h
  | [], _ :: _, _ :: _, _, _ => rfl
  | _ :: _, [], _, h, _ => by simp [Op.bytesLess] at h
  | _ :: _, _ :: _, [], _, h => by simp [Op.bytesLess] at h
  | a :: x, b :: y, c :: z, h, k => by
    simp only [Op.bytesLess, Bool.or_eq_true, decide_eq_true_eq, Bool.and_eq_true, beq_iff_eq] at h k ⊢
    rcases h with h | ⟨h, h'⟩ <;> rcases k with k | ⟨k, k'⟩
    · exact .inl (UInt8.lt_trans h k)
    · exact .inl (k ▸ h)
    · exact .inl (h ▸ k)
    · exact .inr ⟨h.trans k, bL_trans x y z h' k'⟩

theorem bL_tot : ∀ x y : List UInt8, x ≠ y → Op.bytesLess x y = true ∨ Op.bytesLess y x = true
  | [], [], h => absurd rfl h
  | [], _ :: _, _ => .inl rfl
  | _ :: _, [], _ => .inr rfl
  | a :: x, b :: y, h => by
    simp only [Op.bytesLess, Bool.or_eq_true, decide_eq_true_eq, Bool.and_eq_true, beq_iff_eq]
    by_cases c : a = b
    · subst c
      rcases bL_tot x y (fun e => h (by rw [e])) with k | k
      · exact .inl (.inr ⟨rfl, k⟩)
      · exact .inr (.inr ⟨rfl, k⟩)
    · have : a < b ∨ b < a := by
        have h1 : a.toNat ≠ b.toNat := fun e => c (UInt8.toNat_inj.1 e)
        rw [UInt8.lt_iff_toNat_lt, UInt8.lt_iff_toNat_lt]; omega
      rcases this with k | k
      · exact .inl (.inl k)
      · exact .inr (.inl k)

def bl (a b : ByteArray) : Bool := Op.bytesLess (bts a) (bts b)

theorem bl_eq {a b : ByteArray} : Op.bytesLess a.toList b.toList = bl a b := by unfold bl bts; rw [ByteArray.toList_eq, ByteArray.toList_eq]

theorem bl_irr (a : ByteArray) : bl a a = false := bL_irr _

theorem bl_trans (a b c : ByteArray) (h : bl a b = true) (k : bl b c = true) : bl a c = true := bL_trans _ _ _ h k

theorem bl_tot (a b : ByteArray) (h : a ≠ b) : bl a b = true ∨ bl b a = true := bL_tot _ _ (fun e => h (bts_inj.1 e))

def lexN : List ByteArray → List ByteArray → Bool
  | _, [] => false
  | [], _ :: _ => true
  | x :: xs, y :: ys => if x = y then lexN xs ys else bl x y

theorem lexN_irr : ∀ x : List ByteArray, lexN x x = false
  | [] => rfl
  | a :: x => by simp [lexN, lexN_irr x]

theorem lexN_trans : ∀ x y z : List ByteArray, lexN x y = true → lexN y z = true → lexN x z = true
  | [], [], _, h, _ => by simp [lexN] at h
  | [], _ :: _, [], _, h => by simp [lexN] at h
  | [], _ :: _, _ :: _, _, _ => rfl
  | _ :: _, [], _, h, _ => by simp [lexN] at h
  | _ :: _, _ :: _, [], _, h => by simp [lexN] at h
  | a :: x, b :: y, c :: z, h, k => by
    unfold lexN at h k ⊢
    by_cases e1 : a = b
    · subst e1
      rw [if_pos rfl] at h
      by_cases e2 : a = c
      · rw [if_pos e2] at k ⊢; exact lexN_trans x y z h k
      · rw [if_neg e2] at k ⊢; exact k
    · rw [if_neg e1] at h
      by_cases e2 : b = c
      · subst e2; rw [if_neg e1]; exact h
      · rw [if_neg e2] at k
        have h3 := bl_trans a b c h k
        by_cases e3 : a = c
        · subst e3; rw [bl_irr] at h3; cases h3
        · rw [if_neg e3]; exact h3

theorem lexN_tot : ∀ x y : List ByteArray, x ≠ y → lexN x y = true ∨ lexN y x = true
  | [], [], h => absurd rfl h
  | [], _ :: _, _ => .inl rfl
  | _ :: _, [], _ => .inr rfl
  | a :: x, b :: y, h => by
    unfold lexN
    by_cases c : a = b
    · subst c
      rw [if_pos rfl, if_pos rfl]; exact lexN_tot x y (fun e => h (by rw [e]))
    · rw [if_neg c, if_neg (fun e => c e.symm)]; exact bl_tot a b c

def lessN (a b : ByteArray) : Bool := lexN (labels a).reverse (labels b).reverse

def unseg : List (List UInt8) → List UInt8
  | [] => []
  | [x] => x
  | x :: y :: t => x ++ 46 :: unseg (y :: t)

theorem unseg_cons {x : List UInt8} {t : List (List UInt8)} (h : t ≠ []) : unseg (x :: t) = x ++ 46 :: unseg t := by cases t with | nil => exact absurd rfl h | cons y t => rfl

theorem segs_ne (cur l : List UInt8) : segs cur l ≠ [] := fun h => by have := segs_pos cur l; rw [h] at this; simp at this

theorem unseg_segs : ∀ (l cur : List UInt8), unseg (segs cur l) = cur ++ l
  | [], cur => by simp [segs, unseg]
  | b :: l, cur => by
    unfold segs
    by_cases c : b = 46
    · subst c; simp only [if_true]; rw [unseg_cons (segs_ne _ _), unseg_segs l []]; simp
    · simp only [c, if_false]; rw [unseg_segs l (cur ++ [b])]; simp

theorem mkB_inj {a b : List UInt8} (h : mkB a = mkB b) : a = b := by rw [← bts_mkB a, h, bts_mkB]

theorem map_mkB_inj : ∀ {a b : List (List UInt8)}, a.map mkB = b.map mkB → a = b
  | [], [], _ => rfl
  | [], _ :: _, h => by simp at h
  | _ :: _, [], h => by simp at h
  | x :: a, y :: b, h => by
    simp only [List.map_cons, List.cons.injEq] at h
    rw [mkB_inj h.1, map_mkB_inj h.2]

theorem labels_inj {a b : ByteArray} (h : labels a = labels b) : a = b := by
  unfold labels at h
  by_cases ca : bts a = [] <;> by_cases cb : bts b = []
  · exact bts_inj.1 (ca.trans cb.symm)
  · rw [if_pos ca, if_neg cb] at h
    exact absurd (List.map_eq_nil_iff.1 h.symm) (segs_ne _ _)
  · rw [if_neg ca, if_pos cb] at h
    exact absurd (List.map_eq_nil_iff.1 h) (segs_ne _ _)
  · rw [if_neg ca, if_neg cb] at h
    have h1 := map_mkB_inj h
    have h2 := congrArg unseg h1
    rw [unseg_segs, unseg_segs] at h2
    exact bts_inj.1 h2

theorem lessN_irr (a : ByteArray) : lessN a a = false := lexN_irr _

theorem lessN_trans (a b c : ByteArray) (h : lessN a b = true) (k : lessN b c = true) : lessN a c = true := lexN_trans _ _ _ h k

theorem lessN_tot (a b : ByteArray) (h : a ≠ b) : lessN a b = true ∨ lessN b a = true := lexN_tot _ _ (fun e => h (labels_inj (List.reverse_inj.1 e)))

theorem slices_Reverse_string_l0_eq : ∀ (k fl : Nat) (pre mid suf : List ByteArray), mid.length ≤ k → k < fl → pre.length + mid.length ≤ 2097153 →
    slices_Reverse_string_l0 fl (pre ++ mid ++ suf) (pre.length : Int) ((pre.length : Int) + (mid.length : Int) - 1) = some (pre ++ mid.reverse ++ suf)
  | k, 0, _, _, _, _, h, _ => by omega
  | k, fl + 1, pre, mid, suf, hk, hfl, hl => by
    rw [slices_Reverse_string_l0]
    match mid, hk with
    | [], _ => simp [show ¬ ((pre.length : Int) < (pre.length : Int) - 1) by omega]
    | [a], _ => simp
    | a :: b :: t, hk =>
      obtain ⟨m, c, hm⟩ : ∃ m c, b :: t = m ++ [c] := ⟨(b :: t).dropLast, (b :: t).getLast (by simp), (List.dropLast_concat_getLast (by simp)).symm⟩
      rw [hm] at hk hl ⊢
      simp only [List.length_cons, List.length_append, List.length_nil] at hk hl ⊢
      have ej : ((pre.length : Int) + ((m.length + (0 + 1) + 1 : Nat) : Int) - 1) = ((pre.length + 1 + m.length : Nat) : Int) := by omega
      rw [ej]
      have e1 : pre ++ a :: (m ++ [c]) ++ suf = (pre ++ a :: m) ++ c :: suf := by simp
      have e2 : pre ++ a :: (m ++ [c]) ++ suf = pre ++ a :: (m ++ c :: suf) := by simp
      have hlt : ((pre.length : Int) < ((pre.length + 1 + m.length : Nat) : Int)) := by omega
      simp only [hlt, decide_true, cond_true, idx_nat, Int.toNat_natCast]
      have g1 : (pre ++ a :: (m ++ [c]) ++ suf)[pre.length + 1 + m.length]? = some c := by
        rw [e1, show pre.length + 1 + m.length = (pre ++ a :: m).length by simp; omega, get_app]
      have g2 : (pre ++ a :: (m ++ [c]) ++ suf)[pre.length]? = some a := by rw [e2, get_app]
      have s1 : (pre ++ a :: (m ++ [c]) ++ suf).set pre.length c = (pre ++ c :: m) ++ c :: suf := by rw [e2, set_app]; simp
      have g3 : ((pre ++ c :: m) ++ c :: suf)[pre.length + 1 + m.length]? = some c := by
        rw [show pre.length + 1 + m.length = (pre ++ c :: m).length by simp; omega, get_app]
      have s2 : ((pre ++ c :: m) ++ c :: suf).set (pre.length + 1 + m.length) a = (pre ++ [c]) ++ m ++ (a :: suf) := by
        rw [show pre.length + 1 + m.length = (pre ++ c :: m).length by simp; omega, set_app]; simp
      rw [g1, bnd1_mk, g2, bnd1_mk, s1, g3, bnd1_mk, s2, grd_pos (by simp only [i64]; omega), grd_pos (by simp only [i64]; omega)]
      have ih := slices_Reverse_string_l0_eq (k - 1) fl (pre ++ [c]) m (a :: suf) (by omega) (by omega) (by simp; omega)
      have ei : ((pre ++ [c]).length : Int) = (pre.length : Int) + 1 := by simp
      rw [ei] at ih
      have ej2 : ((pre.length + 1 + m.length : Nat) : Int) - 1 = (pre.length : Int) + 1 + (m.length : Int) - 1 := by omega
      rw [ej2, ih]
      simp

theorem slices_Reverse_string_eq {l : List ByteArray} (h : l.length ≤ 2097152) : slices_Reverse_string l = some l.reverse := by
  unfold slices_Reverse_string
  rw [grd_pos (by simp only [i64]; omega)]
  have := slices_Reverse_string_l0_eq l.length fuel0 [] l [] (Nat.le_refl _) (by unfold fuel0; omega) (by simp; omega)
  simpa using this

theorem cmp_Compare_string_eq {a b : ByteArray} : cmp_Compare_string a b = some (bif bl a b then -1 else (bif decide (a = b) then 0 else 1)) := by
  unfold cmp_Compare_string cmp_isNaN_string
  rw [bl_eq]
  have e : (a.toList == b.toList) = decide (a = b) := by
    rw [ByteArray.toList_eq, ByteArray.toList_eq]
    by_cases c : a = b
    · subst c; simp
    · have : ¬ a.data = b.data := fun h => c (bts_inj.1 (congrArg Array.toList h))
      simp [c, this]
  rw [e]
  by_cases c : a = b
  · subst c; simp [bl_irr]
  · cases bl a b <;> simp [c]

theorem slices_Compare_string_l1_eq (x y : List ByteArray) : ∀ (l q pre pre' : List ByteArray), x = pre ++ l → y = pre' ++ q → pre.length = pre'.length → ∃ c, slices_Compare_string_l1 x y l pre.length = some c ∧ decide (c < 0) = lexN l q
  | [], q, pre, pre', hx, hy, hl => by
    unfold slices_Compare_string_l1 slices_Compare_string_j0
    subst hx hy
    cases q with
    | nil => exact ⟨0, by simp [hl], rfl⟩
    | cons b q =>
      have h1 : (((pre ++ []).length : Nat) : Int) < (((pre' ++ b :: q).length : Nat) : Int) := by simp only [List.length_append, List.length_cons, List.length_nil]; omega
      exact ⟨-1, by simp only [h1, decide_true, cond_true], rfl⟩
  | a :: l, q, pre, pre', hx, hy, hl => by
    rw [slices_Compare_string_l1]
    cases q with
    | nil =>
      subst hx hy
      exact ⟨1, by simp [hl], rfl⟩
    | cons b q =>
      have h1 : ¬ ((y.length : Int) ≤ (pre.length : Int)) := by subst hy; simp; omega
      have h2 : y[pre.length]? = some b := by subst hy; rw [hl, get_app]
      simp only [h1, decide_false, cond_false, idx_nat, h2, bnd1_mk, cmp_Compare_string_eq]
      obtain ⟨c, h3, h4⟩ := slices_Compare_string_l1_eq x y l q (pre ++ [a]) (pre' ++ [b]) (by simp [hx]) (by simp [hy]) (by simp [hl])
      rw [show (pre ++ [a]).length = pre.length + 1 by simp] at h3
      by_cases c' : a = b
      · subst c'; exact ⟨c, by simp [bl_irr, h3], by simp [lexN, h4]⟩
      · cases hb : bl a b with
        | true => exact ⟨-1, by simp, by simp [lexN, c', hb]⟩
        | false => exact ⟨1, by simp [c'], by simp [lexN, c', hb]⟩

theorem i_LessName_eq {a b : ByteArray} (ha : a.size ≤ 1048576) (hb : b.size ≤ 1048576) : i_LessName a b = some (lessN a b) := by
  have h1 := labels_len a
  have h2 := labels_len b
  unfold i_LessName slices_Compare_string
  rw [i_Labels_eq ha, bnd1_mk, i_Labels_eq hb, bnd1_mk, slices_Reverse_string_eq (by omega), bnd1_mk, grd_pos (List.length_reverse ..), slices_Reverse_string_eq (by omega), bnd1_mk, grd_pos (List.length_reverse ..)]
  obtain ⟨c, h3, h4⟩ := slices_Compare_string_l1_eq (labels a).reverse (labels b).reverse (labels a).reverse (labels b).reverse [] [] rfl rfl rfl
  rw [show ([] : List ByteArray).length = 0 from rfl] at h3
  rw [h3, bnd1_mk, h4]; rfl

theorem s_LessName_l1_eq (x y : List ByteArray) (hx : x.length ≤ 2097152) (hy : y.length ≤ 2097152) (fl : Nat) : ∀ (k i : Nat), x.length - i = k → i ≤ x.length → i ≤ y.length → k + 1 < fl → s_LessName_l1 x y fl ((i : Int) + 1) = some (lexN (x.reverse.drop i) (y.reverse.drop i)) := by
  induction fl with
  | zero => intro k i _ _ _ h; omega
  | succ fl IH =>
    intro k i hk hi hi' hfl
    rw [s_LessName_l1]
    unfold s_LessName_j2 s_LessName_j0
    by_cases c1 : i = x.length
    · have e1 : x.reverse.drop i = [] := List.drop_eq_nil_of_le (by simp; omega)
      have h1 : ¬ ((i : Int) + 1 ≤ (x.length : Int)) := by omega
      simp only [h1, decide_false, cond_false, e1]
      by_cases c2 : i = y.length
      · have e2 : y.reverse.drop i = [] := List.drop_eq_nil_of_le (by simp; omega)
        have h2 : ¬ ((x.length : Int) < (y.length : Int)) := by omega
        simp [e2, lexN, h2]
      · have hlt : i < y.reverse.length := by simp; omega
        rw [List.drop_eq_getElem_cons hlt]
        have h2 : ((x.length : Int) < (y.length : Int)) := by omega
        simp [lexN, h2]
    · have h1 : ((i : Int) + 1 ≤ (x.length : Int)) := by omega
      have hltx : i < x.reverse.length := by simp; omega
      simp only [h1, decide_true, cond_true]
      by_cases c2 : i = y.length
      · have h2 : ¬ ((i : Int) + 1 ≤ (y.length : Int)) := by omega
        have e2 : y.reverse.drop i = [] := List.drop_eq_nil_of_le (by simp; omega)
        have h3 : ¬ ((x.length : Int) < (y.length : Int)) := by omega
        have e3 : ∀ l : List ByteArray, lexN l [] = false := fun l => by cases l <;> rfl
        simp [h2, e2, h3, e3]
      · have h2 : ((i : Int) + 1 ≤ (y.length : Int)) := by omega
        have hlty : i < y.reverse.length := by simp; omega
        have ix : idx x ((x.length : Int) - ((i : Int) + 1)) = some x.reverse[i] := by
          rw [show (x.length : Int) - ((i : Int) + 1) = (x.length : Int) - ((i + 1 : Nat) : Int) by omega, idx_sub (by omega), List.getElem?_eq_getElem (by omega), List.getElem_reverse]
          congr 1; congr 1; omega
        have iy : idx y ((y.length : Int) - ((i : Int) + 1)) = some y.reverse[i] := by
          rw [show (y.length : Int) - ((i : Int) + 1) = (y.length : Int) - ((i + 1 : Nat) : Int) by omega, idx_sub (by omega), List.getElem?_eq_getElem (by omega), List.getElem_reverse]
          congr 1; congr 1; omega
        simp only [h2, decide_true, cond_true, ix, iy, bnd1_mk]
        rw [grd_pos (by simp only [i64]; omega), grd_pos (by simp only [i64]; omega), List.drop_eq_getElem_cons hltx, List.drop_eq_getElem_cons hlty, lexN, bl_eq]
        by_cases ce : x.reverse[i] = y.reverse[i]
        · have ih := IH (k - 1) (i + 1) (by omega) (by omega) (by omega) (by omega)
          have e9 : (i : Int) + 1 + 1 = ((i + 1 : Nat) : Int) + 1 := by omega
          have g9 : i64 ((i : Int) + 1 + 1) := by constructor <;> omega
          simp only [ce, decide_true, Bool.not_true, cond_false, if_true, grd_pos g9]
          rw [e9]; exact ih
        · simp only [ce, decide_false, Bool.not_false, cond_true, if_false]

theorem s_LessName_eq {a b : ByteArray} (ha : a.size ≤ 1048576) (hb : b.size ≤ 1048576) : s_LessName a b = some (lessN a b) := by
  have h1 := labels_len a
  have h2 := labels_len b
  unfold s_LessName
  rw [s_Labels_eq ha, bnd1_mk, s_Labels_eq hb, bnd1_mk]
  have := s_LessName_l1_eq (labels a) (labels b) (by omega) (by omega) fuel0 _ 0 rfl (Nat.zero_le _) (Nat.zero_le _) (by unfold fuel0; omega)
  unfold lessN
  simpa using this

def lx {α : Type} [DecidableEq α] (lt : α → α → Bool) (x y : α) (r : Bool) : Bool := if x = y then r else lt x y

def lti (a b : Int) : Bool := decide (a < b)

def lessR (a b : Rec) : Bool := lx lessN a.name b.name (lx lti a.ty b.ty (lx lti a.n b.n (lx lessN a.host b.host (lx bl a.text b.text (lti a.ttl b.ttl)))))

theorem s_LessRecord_eq {a b : Rec} (ha : a.sm) (hb : b.sm) : s_LessRecord a b = some (lessR a b) := by
  unfold s_LessRecord lessR lx lti
  rw [s_LessName_eq ha.1 hb.1, s_LessName_eq ha.2.1 hb.2.1, bl_eq]
  by_cases c1 : a.name = b.name <;> by_cases c2 : a.ty = b.ty <;> by_cases c3 : a.n = b.n <;> by_cases c4 : a.host = b.host <;> by_cases c5 : a.text = b.text <;> simp [c1, c2, c3, c4, c5]

theorem i_byName_eq {a b : ByteArray} (ha : a.size ≤ 1048576) (hb : b.size ≤ 1048576) : i_byName a b = some (bif decide (a = b) then 0 else (bif lessN a b then -1 else 1)) := by
  unfold i_byName
  rw [i_LessName_eq ha hb, bnd1_mk, i_LessName_eq hb ha, bnd1_mk]
  by_cases c : a = b
  · subst c; simp [lessN_irr]
  · rcases lessN_tot a b c with h | h
    · simp [c, h]
    · cases hh : lessN a b with
      | true => have := lessN_trans a b a hh h; rw [lessN_irr] at this; cases this
      | false => simp [c, h]

theorem cmp_Compare_int_eq {a b : Int} : cmp_Compare_int a b = some (bif decide (a = b) then 0 else (bif lti a b then -1 else 1)) := by
  unfold cmp_Compare_int cmp_isNaN_int lti
  by_cases c : a = b
  · subst c; simp
  · by_cases c1 : a < b
    · simp [c, c1]
    · have : b < a := by omega
      simp [c, c1, this]

theorem cmp_Compare_string_eq' {a b : ByteArray} : cmp_Compare_string a b = some (bif decide (a = b) then 0 else (bif bl a b then -1 else 1)) := by
  rw [cmp_Compare_string_eq]
  by_cases c : a = b
  · subst c; simp [bl_irr]
  · simp [c]

/-- The first that is not 0 decides. -/
theorem or_step {x : Int} {l : List Int} {i : Nat} {c : Int} (h : cmp_Or_int_l0 l (i + 1) = some c) : cmp_Or_int_l0 (x :: l) i = some (bif decide (x = 0) then c else x) := by
  rw [cmp_Or_int_l0, h]; by_cases c0 : x = 0 <;> simp [c0]

theorem lx_sign {α : Type} [DecidableEq α] {lt : α → α → Bool} {x y : α} {c : Int} {r : Bool} (h : decide (c < 0) = r) :
    decide ((bif decide ((bif decide (x = y) then (0 : Int) else (bif lt x y then -1 else 1)) = 0) then c else (bif decide (x = y) then 0 else (bif lt x y then -1 else 1))) < 0) = lx lt x y r := by
  unfold lx
  by_cases e : x = y
  · simp [e, h]
  · cases lt x y <;> simp [e]

theorem i_LessRecord_eq {a b : Rec} (ha : a.sm) (hb : b.sm) : i_LessRecord a b = some (lessR a b) := by
  unfold i_LessRecord i_byRecord cmp_Or_int
  rw [i_byName_eq ha.1 hb.1, bnd1_mk, cmp_Compare_int_eq, bnd1_mk, cmp_Compare_int_eq, bnd1_mk, i_byName_eq ha.2.1 hb.2.1, bnd1_mk, cmp_Compare_string_eq', bnd1_mk, cmp_Compare_int_eq, bnd1_mk]
  rw [or_step (or_step (or_step (or_step (or_step (or_step (c := 0) rfl))))), bnd1_mk, bnd1_mk]
  congr 1
  unfold lessR
  refine lx_sign (lx_sign (lx_sign (lx_sign (lx_sign ?_))))
  by_cases e : a.ttl = b.ttl
  · simp [e, lti]
  · cases h : lti a.ttl b.ttl <;> simp [e]

def okcut (r : Rec) (c : ByteArray) : Bool := !under r.name c || (decide (r.ty = 1) || (decide (r.ty = 2) && decide (r.name = c)))

def okpair (r s : Rec) : Bool := !decide (s.name = r.name) || (!(decide (s.ty = r.ty) && !decide (s.ttl = r.ttl)) && !(decide (r.ty = 5) && !decide (s = r)))

def badStart (apex : ByteArray) (r : Rec) : Bool := (decide (r.ty = 6) && !decide (r.name = apex)) || (decide (r.ty = 5) && decide (r.name = apex))

def prevI (pre : List Rec) (r : Rec) : Bool := match pre.getLast? with | none => true | some p => lessR p r

def iRec (z : MZone) (pre : List Rec) (r : Rec) : Bool := under r.name z.apex && (prevI pre r && (z.l.all (okpair r) && (!badStart z.apex r && (cutsOf z).all (okcut r))))

def allP (g : List Rec → Rec → Bool) : List Rec → List Rec → Bool
  | _, [] => true
  | pre, r :: t => g pre r && allP g (pre ++ [r]) t

def starts : List Rec → Int
  | [] => 0
  | r :: t => (bif decide (r.ty = 6) then 1 else 0) + starts t

theorem i_ZoneOk_l9_eq {v : Nat} {r : Rec} {j : Int} {k : Int → Nat → Option Bool} (hr : r.sm) : ∀ (l : List ByteArray) (i : Nat), (∀ c, c ∈ l → c.size ≤ 1048576) → i_ZoneOk_l9 v r j k l i = bif l.all (okcut r) then k j (v + 1) else some false
  | [], i, _ => rfl
  | c :: l, i, h => by
    rw [i_ZoneOk_l9, i_Under_eq hr.1 (h c (.head _)), bnd1_mk, List.all_cons]
    have ih := i_ZoneOk_l9_eq (v := v) (j := j) (k := k) hr l (i + 1) (fun x hx => h x (.tail _ hx))
    generalize l.all (okcut r) = b at ih ⊢
    unfold i_ZoneOk_j10 okcut
    rw [ih]
    cases under r.name c
    · rfl
    · by_cases c1 : r.ty = 1
      · simp only [c1, decide_true, Bool.not_true, cond_true, cond_false, Bool.true_or, Bool.or_true, Bool.true_and]
      · by_cases c2 : r.ty = 2
        · simp only [c2, show ¬ ((2 : Int) = 1) from by decide, decide_true, decide_false, Bool.not_false, Bool.not_true, cond_true, Bool.false_or, Bool.true_and]
          cases decide (r.name = c) <;> rfl
        · simp only [c1, c2, decide_false, Bool.not_false, Bool.not_true, cond_true, cond_false, Bool.false_or, Bool.false_and]

theorem i_ZoneOk_l5_eq {z : MZone} {n : Int} {v : Nat} {r : Rec} {k : Int → Nat → Option Bool} : ∀ (l : List Rec) (i : Nat), i_ZoneOk_l5 z n v r k l i = bif l.all (okpair r) then i_ZoneOk_j4 z n v r k else some false
  | [], i => rfl
  | s :: l, i => by
    rw [i_ZoneOk_l5, List.all_cons]
    have ih := i_ZoneOk_l5_eq (z := z) (n := n) (v := v) (r := r) (k := k) l (i + 1)
    generalize l.all (okpair r) = b at ih ⊢
    unfold i_ZoneOk_j6 okpair
    rw [ih, rec_ext]
    cases decide (s.name = r.name)
    · rfl
    · cases decide (s.ty = r.ty) <;> cases decide (s.ttl = r.ttl) <;> cases decide (r.ty = 5) <;> cases decide (s = r) <;> rfl

theorem prev_idx {l pre t : List Rec} (h : l = pre ++ t) (hp : 0 < pre.length) : ∃ p, pre.getLast? = some p ∧ idx l ((pre.length : Int) - 1) = some p := by
  have hne : pre ≠ [] := fun e => by subst e; simp at hp
  refine ⟨pre.getLast hne, List.getLast?_eq_some_getLast hne, ?_⟩
  rw [show (pre.length : Int) - 1 = ((pre.length - 1 : Nat) : Int) by omega, idx_nat, h, List.getElem?_append_left (by omega), List.getLast_eq_getElem, List.getElem?_eq_getElem (by omega)]

theorem i_ZoneOk_l2_eq {z : MZone} (hz : z.sm) : ∀ (l pre : List Rec) (n : Int), z.l = pre ++ l → 0 ≤ n → n ≤ (pre.length : Int) →
    i_ZoneOk_l2 z l n pre.length = some (allP (iRec z) pre l && (decide (n + starts l = 1) && decide (0 < ((setOf z.l z.apex 2).length : Int))))
  | [], pre, n, _, _, _ => by
    rw [i_ZoneOk_l2, i_ZoneOk_j1, i_SetOf_eq hz.2, bnd1_mk, allP, starts, Int.add_zero, Bool.true_and]
    cases decide (n = 1) <;> rfl
  | r :: l, pre, n, hl, h0, hn => by
    have hr : r.sm := hz.2.2 r (by rw [hl]; simp)
    have hlen : pre.length + (l.length + 1) ≤ 1048576 := by have := hz.2.1; rw [hl] at this; simpa using this
    have hk : ∀ j : Int, j = n + (bif decide (r.ty = 6) then 1 else 0) → i_ZoneOk_l2 z l j (pre.length + 1) = some (allP (iRec z) (pre ++ [r]) l && (decide (n + starts (r :: l) = 1) && decide (0 < ((setOf z.l z.apex 2).length : Int)))) := fun j hj => by
      have := i_ZoneOk_l2_eq hz l (pre ++ [r]) j (by rw [hl]; simp) (by cases hd : decide (r.ty = 6) <;> rw [hd] at hj <;> simp at hj <;> omega) (by cases hd : decide (r.ty = 6) <;> rw [hd] at hj <;> simp at hj <;> simp <;> omega)
      rw [show (pre ++ [r]).length = pre.length + 1 by simp] at this
      rw [this, starts, hj, Int.add_assoc]
    have h8 : ∀ b : Bool, b = badStart z.apex r → i_ZoneOk_j8 z n pre.length r (i_ZoneOk_l2 z l) b = some ((!badStart z.apex r && (cutsOf z).all (okcut r)) && (allP (iRec z) (pre ++ [r]) l && (decide (n + starts (r :: l) = 1) && decide (0 < ((setOf z.l z.apex 2).length : Int))))) := fun b hb => by
      unfold i_ZoneOk_j8
      rw [← hb]
      cases b
      · have h7 : ∀ j : Int, j = n + (bif decide (r.ty = 6) then 1 else 0) → i_ZoneOk_j7 z pre.length r (i_ZoneOk_l2 z l) j = some ((cutsOf z).all (okcut r) && (allP (iRec z) (pre ++ [r]) l && (decide (n + starts (r :: l) = 1) && decide (0 < ((setOf z.l z.apex 2).length : Int))))) := fun j hj => by
          unfold i_ZoneOk_j7
          rw [i_CutsOf_eq hz, bnd1_mk, i_ZoneOk_l9_eq hr _ _ (cutsOf_sm hz).2, hk j hj]
          cases (cutsOf z).all (okcut r) <;> rfl
        simp only [cond_false, Bool.not_false, Bool.true_and]
        cases hd : decide (r.ty = 6)
        · rw [cond_false, h7 n (by rw [hd]; simp)]
        · rw [cond_true, grd_pos (by simp only [i64]; omega), h7 (n + 1) (by rw [hd]; simp)]
      · rfl
    have h4 : i_ZoneOk_j4 z n pre.length r (i_ZoneOk_l2 z l) = some ((!badStart z.apex r && (cutsOf z).all (okcut r)) && (allP (iRec z) (pre ++ [r]) l && (decide (n + starts (r :: l) = 1) && decide (0 < ((setOf z.l z.apex 2).length : Int))))) := by
      unfold i_ZoneOk_j4
      cases c6 : decide (r.ty = 6) <;> cases ca : decide (r.name = z.apex) <;> cases c5 : decide (r.ty = 5) <;> exact h8 _ (by unfold badStart; rw [c6, ca, c5] <;> rfl)
    have h3 : ∀ b : Bool, i_ZoneOk_j3 z n pre.length r (i_ZoneOk_l2 z l) b = some (!b && (z.l.all (okpair r) && ((!badStart z.apex r && (cutsOf z).all (okcut r)) && (allP (iRec z) (pre ++ [r]) l && (decide (n + starts (r :: l) = 1) && decide (0 < ((setOf z.l z.apex 2).length : Int))))))) := fun b => by
      unfold i_ZoneOk_j3
      rw [i_ZoneOk_l5_eq, h4]
      cases b <;> cases z.l.all (okpair r) <;> rfl
    rw [i_ZoneOk_l2, i_Under_eq hr.1 hz.1, bnd1_mk, allP, iRec]
    cases under r.name z.apex
    · exact h3 true
    · simp only [Bool.not_true, cond_false, Bool.true_and]
      cases hp : pre with
      | nil =>
        rw [← hp, show decide (0 < (pre.length : Int)) = false by rw [hp]; rfl, h3]
        simp only [cond_false, prevI, hp, List.getLast?_nil, Bool.not_false, Bool.true_and, Bool.and_assoc]
      | cons a b =>
        rw [← hp]
        have hpos : 0 < pre.length := by rw [hp]; simp
        obtain ⟨p, hp1, hp2⟩ := prev_idx hl hpos
        have hps : p.sm := hz.2.2 p (by rw [hl]; exact List.mem_append_left _ (List.mem_of_getLast? hp1))
        rw [show (decide (0 < (pre.length : Int))) = true by simp; omega, cond_true, grd_pos (by simp only [i64]; omega), hp2, bnd1_mk, i_LessRecord_eq hps hr, bnd1_mk, h3]
        simp only [prevI, hp1, Bool.not_not, Bool.and_assoc]

def zoneI (z : MZone) : Bool := nameP z.apex && (listP 20 z.l && (allP (iRec z) [] z.l && (decide (starts z.l = 1) && decide (0 < ((setOf z.l z.apex 2).length : Int)))))

theorem i_ZoneOk_eq {z : MZone} (hz : z.sm) : i_ZoneOk z = some (zoneI z) := by
  unfold i_ZoneOk zoneI
  rw [i_NameOk_eq hz.1, bnd1_mk, i_allOk_eq hz.2, bnd1_mk]
  unfold i_ZoneOk_j0
  have := i_ZoneOk_l2_eq hz z.l [] 0 rfl (by decide) (by simp)
  rw [show ([] : List Rec).length = 0 from rfl, Int.zero_add] at this
  rw [this]
  cases nameP z.apex <;> cases listP 20 z.l <;> rfl

def lt (a b : Rec) : Prop := lessR a b = true

theorem name_or {a b : Rec} (h : lt a b) : a.name = b.name ∨ lessN a.name b.name = true := by
  unfold lt lessR lx at h
  by_cases c : a.name = b.name
  · exact .inl c
  · rw [if_neg c] at h; exact .inr h

theorem between {a b c : Rec} (h : lt a b) (k : lt b c) (e : a.name = c.name) (e' : a.ty = c.ty) : b.name = a.name ∧ b.ty = a.ty := by
  have h1 : a.name = b.name := by
    rcases name_or h with h1 | h1
    · exact h1
    · rcases name_or k with h2 | h2
      · rw [e, h2, lessN_irr] at h1; cases h1
      · have := lessN_trans _ _ _ h1 h2
        rw [e, lessN_irr] at this; cases this
  refine ⟨h1.symm, ?_⟩
  unfold lt lessR lx at h k
  rw [if_pos h1] at h
  rw [if_pos (h1.symm.trans e)] at k
  by_cases c1 : a.ty = b.ty
  · exact c1.symm
  · rw [if_neg c1] at h
    by_cases c2 : b.ty = c.ty
    · exact c2.trans e'.symm
    · rw [if_neg c2] at k
      simp only [lti, decide_eq_true_eq] at h k; omega

theorem w_big_eq {p : List Int} : w_big p = some (decide (1048576 < (p.length : Int))) := rfl

theorem bnd2_pair {α β γ : Type} {p : α × β} {f : α → β → Option γ} : bnd2 (some p) f = f p.1 p.2 := rfl

theorem s_SortRecords_j1_eq {v : List Rec} {i : Nat} {e : Rec} {K : List Rec → Nat → Option (List Rec)} {j : Nat} (hj : j ≤ v.length) (hv : v.length ≤ 1000) : s_SortRecords_j1 v i e K (j : Int) = K ((v.take j ++ [e]) ++ v.drop j) (i + 1) := by
  have e1 : (v.drop (0 + ((0 : Nat) : Int).toNat)).take ((j : Int).toNat - ((0 : Nat) : Int).toNat) = v.take j := by simp
  have e2 : (v.drop (0 + (j : Int).toNat)).take ((v.length : Int).toNat - (j : Int).toNat) = v.drop j := by
    rw [Int.toNat_natCast, Int.toNat_natCast, Nat.zero_add]; exact List.take_of_length_le (by simp)
  have l1 : (v.take j).length = j := by rw [List.length_take]; omega
  have l2 : (v.drop j).length = v.length - j := List.length_drop
  unfold s_SortRecords_j1
  rw [e1, e2, List.nil_append, grd_pos (by omega), grd_pos (by omega), grd_pos (by simp only [List.length_append, List.length_singleton]; omega), grd_pos (by omega), grd_pos (by simp only [List.length_append, List.length_singleton]; omega)]

theorem s_SortRecords_l2_p {v : List Rec} {i : Nat} {e : Rec} {K : List Rec → Nat → Option (List Rec)} (hv : v.length ≤ 1000) (hs : ∀ r, r ∈ v → r.sm) (he : e.sm) : ∀ (k fl : Nat), k ≤ v.length → k < fl → ∃ j, j ≤ v.length ∧ s_SortRecords_l2 v i e K fl (k : Int) = K ((v.take j ++ [e]) ++ v.drop j) (i + 1)
  | 0, fl, hk, hf => by
    obtain ⟨fl, rfl⟩ : ∃ q, fl = q + 1 := ⟨fl - 1, by omega⟩
    refine ⟨0, by omega, ?_⟩
    rw [s_SortRecords_l2]
    unfold s_SortRecords_j3
    exact s_SortRecords_j1_eq (j := 0) (by omega) hv
  | k + 1, fl, hk, hf => by
    obtain ⟨fl, rfl⟩ : ∃ q, fl = q + 1 := ⟨fl - 1, by omega⟩
    have c1 : (0 : Int) < ((k + 1 : Nat) : Int) := by omega
    have e9 : ((k + 1 : Nat) : Int) - 1 = (k : Int) := by omega
    obtain ⟨x, e1, hx⟩ := idx_ok (l := v) (i := (k : Int)) (by omega) (by omega)
    rw [s_SortRecords_l2, decide_eq_true c1, cond_true, e9, grd_pos (by simp only [i64]; omega), e1, bnd1_mk, s_LessRecord_eq he (hs x hx), bnd1_mk]
    unfold s_SortRecords_j3
    cases lessR e x with
    | true =>
      obtain ⟨j, h1, h2⟩ := s_SortRecords_l2_p (i := i) (K := K) hv hs he k fl (by omega) (by omega)
      refine ⟨j, h1, ?_⟩
      rw [cond_true, e9, grd_pos (by simp only [i64]; omega)]
      exact h2
    | false => exact ⟨k + 1, hk, s_SortRecords_j1_eq hk hv⟩

theorem s_SortRecords_l0_p : ∀ (l v : List Rec) (i : Nat), (∀ r, r ∈ v → r.sm) → (∀ r, r ∈ l → r.sm) → v.length + l.length ≤ 1000 → ∃ m, s_SortRecords_l0 l v i = some m ∧ m.length = v.length + l.length ∧ ∀ r, r ∈ m → r ∈ v ∨ r ∈ l
  | [], v, i, _, _, _ => ⟨v, rfl, rfl, fun r hr => .inl hr⟩
  | e :: l, v, i, hv, hl, hn => by
    simp only [List.length_cons] at hn
    obtain ⟨j, h1, h2⟩ := s_SortRecords_l2_p (i := i) (K := s_SortRecords_l0 l) (by omega) hv (hl e (.head _)) v.length fuel0 (Nat.le_refl _) (fuel_lt (by omega))
    have hm : ∀ r, r ∈ (v.take j ++ [e]) ++ v.drop j → r ∈ v ∨ r = e := fun r hr => by
      rcases List.mem_append.1 hr with hr | hr
      · rcases List.mem_append.1 hr with hr | hr
        · exact .inl (List.mem_of_mem_take hr)
        · exact .inr (List.mem_singleton.1 hr)
      · exact .inl (List.mem_of_mem_drop hr)
    have hlen : ((v.take j ++ [e]) ++ v.drop j).length = v.length + 1 := by
      simp only [List.length_append, List.length_singleton, List.length_take, List.length_drop]; omega
    obtain ⟨m, g1, g2, g3⟩ := s_SortRecords_l0_p l ((v.take j ++ [e]) ++ v.drop j) (i + 1) (fun r hr => by
      rcases hm r hr with h | rfl
      · exact hv r h
      · exact hl r (.head _)) (fun r hr => hl r (.tail _ hr)) (by omega)
    refine ⟨m, by rw [s_SortRecords_l0, h2]; exact g1, by rw [g2, hlen, List.length_cons]; omega, fun r hr => ?_⟩
    rcases g3 r hr with h | h
    · rcases hm r h with h | rfl
      · exact .inl h
      · exact .inr (.head _)
    · exact .inr (.tail _ h)

theorem s_SortRecords_p {l : List Rec} (hl : l.length ≤ 1000) (hs : ∀ r, r ∈ l → r.sm) : ∃ m, s_SortRecords l = some m ∧ m.length = l.length ∧ ∀ r, r ∈ m → r ∈ l := by
  obtain ⟨m, h1, h2, h3⟩ := s_SortRecords_l0_p l [] 0 (fun r hr => by cases hr) hs (by simpa using hl)
  refine ⟨m, h1, by simpa using h2, fun r hr => ?_⟩
  rcases h3 r hr with h | h
  · cases h
  · exact h

/-- A small record of a small time. -/
def Rec.smt (r : Rec) : Prop := r.sm ∧ 0 ≤ r.ttl ∧ r.ttl ≤ 1000

theorem s_l10Uniq_l0_p : ∀ (l v : List Rec) (i : Nat), (∀ r, r ∈ v → r.smt) → (∀ r, r ∈ l → r.smt) → v.length + l.length ≤ 1000 → ∃ m, s_l10Uniq_l0 l v i = some m ∧ m.length ≤ v.length + l.length ∧ (0 < v.length ∨ 0 < l.length → 0 < m.length) ∧ ∀ r, r ∈ m → r.smt
  | [], v, i, hv, _, _ => ⟨v, rfl, Nat.le_refl _, fun h => by rcases h with h | h; exact h; simp at h, hv⟩
  | e :: l, v, i, hv, hl, hn => by
    simp only [List.length_cons] at hn
    have he := hl e (.head _)
    have hlt : ∀ r, r ∈ l → r.smt := fun r hr => hl r (.tail _ hr)
    have go : ∀ v' : List Rec, (∀ r, r ∈ v' → r.smt) → v'.length ≤ v.length + 1 → 0 < v'.length → ∃ m, s_l10Uniq_l0 l v' (i + 1) = some m ∧ m.length ≤ v.length + (e :: l).length ∧ (0 < v.length ∨ 0 < (e :: l).length → 0 < m.length) ∧ ∀ r, r ∈ m → r.smt := fun v' h1 h2 h3 => by
      obtain ⟨m, g1, g2, g3, g4⟩ := s_l10Uniq_l0_p l v' (i + 1) h1 hlt (by omega)
      exact ⟨m, g1, by rw [List.length_cons]; omega, fun _ => g3 (.inl h3), g4⟩
    have j1 : ∀ t : Int, 0 ≤ t → t ≤ 1000 → ∃ m, s_l10Uniq_j1 v i e (s_l10Uniq_l0 l) t = some m ∧ m.length ≤ v.length + (e :: l).length ∧ (0 < v.length ∨ 0 < (e :: l).length → 0 < m.length) ∧ ∀ r, r ∈ m → r.smt := fun t t0 t1 => by
      unfold s_l10Uniq_j1
      rw [grd_pos (by rw [List.length_append, List.length_singleton]; omega)]
      refine go _ (fun r hr => ?_) (by rw [List.length_append, List.length_singleton]; omega) (by rw [List.length_append, List.length_singleton]; omega)
      rcases List.mem_append.1 hr with hr | hr
      · exact hv r hr
      · rw [List.mem_singleton] at hr; rw [hr]; exact ⟨⟨he.1.1, he.1.2.1, he.1.2.2⟩, t0, t1⟩
    have j2 : ∀ b : Bool, (b = true → 0 < v.length) → ∃ m, s_l10Uniq_j2 v i e (s_l10Uniq_l0 l) b = some m ∧ m.length ≤ v.length + (e :: l).length ∧ (0 < v.length ∨ 0 < (e :: l).length → 0 < m.length) ∧ ∀ r, r ∈ m → r.smt := fun b hb => by
      unfold s_l10Uniq_j2
      cases b with
      | false => exact j1 _ he.2.1 he.2.2
      | true =>
        have h0 := hb rfl
        obtain ⟨x, e1, hx⟩ := idx_ok (l := v) (i := (v.length : Int) - 1) (by omega) (by omega)
        rw [cond_true, grd_pos (by simp only [i64]; omega), e1, bnd1_mk, grd_pos (by simp only [i64]; omega)]
        generalize (decide (x.name = e.name) && (decide (x.ty = e.ty) && (decide (x.ttl = x.ttl) && (decide (x.n = e.n) && (decide (x.host = e.host) && (decide (x.text = e.text) && true)))))) = b
        cases b with
        | true => exact go v hv (by omega) h0
        | false => exact j1 _ (hv x hx).2.1 (hv x hx).2.2
    rw [s_l10Uniq_l0]
    cases hd : decide (0 < (v.length : Int)) with
    | false => exact j2 false (by simp)
    | true =>
      have h0 : 0 < v.length := by have := of_decide_eq_true hd; omega
      obtain ⟨x, e1, hx⟩ := idx_ok (l := v) (i := (v.length : Int) - 1) (by omega) (by omega)
      rw [cond_true, grd_pos (by simp only [i64]; omega), e1, bnd1_mk, grd_pos (by simp only [i64]; omega)]
      cases decide (x.name = e.name) with
      | true => exact j2 _ (fun _ => h0)
      | false => exact j2 false (by simp)

theorem s_l10Uniq_p {l : List Rec} (hl : l.length ≤ 1000) (hs : ∀ r, r ∈ l → r.smt) : ∃ m, s_l10Uniq l = some m ∧ m.length ≤ l.length ∧ (0 < l.length → 0 < m.length) ∧ ∀ r, r ∈ m → r.smt := by
  obtain ⟨a, h1, h2, h3⟩ := s_SortRecords_p hl fun r hr => (hs r hr).1
  obtain ⟨m, g1, g2, g3, g4⟩ := s_l10Uniq_l0_p a [] 0 (fun r hr => by cases hr) (fun r hr => hs r (h3 r hr)) (by simp; omega)
  unfold s_l10Uniq
  rw [h1, bnd1_mk]
  exact ⟨m, g1, by simpa [h2] using g2, fun h => g3 (.inr (by omega)), g4⟩

/-- A drawn zone. -/
def MZone.dz (z : MZone) (n : Nat) : Prop := z.apex.size ≤ 1048576 ∧ 0 < z.l.length ∧ z.l.length ≤ n ∧ ∀ r, r ∈ z.l → r.smt

theorem mem_app2 {α : Type} {p : α → Prop} {a b : List α} (h1 : ∀ r, r ∈ a → p r) (h2 : ∀ r, r ∈ b → p r) : ∀ r, r ∈ a ++ b → p r := fun r hr => by
  rcases List.mem_append.1 hr with h | h
  · exact h1 r h
  · exact h2 r h

theorem mem_one {α : Type} {p : α → Prop} {a : α} (h : p a) : ∀ r, r ∈ [a] → p r := fun r hr => by rw [List.mem_singleton] at hr; rw [hr]; exact h

theorem mem_two {α : Type} {p : α → Prop} {a b : α} (h : p a) (k : p b) : ∀ r, r ∈ [a, b] → p r := fun r hr => by
  cases hr with
  | head => exact h
  | tail _ hr => exact mem_one k r hr

theorem smt_of {a b c : ByteArray} {k t n : Int} (h1 : a.size ≤ 1048576) (h2 : b.size ≤ 1048576) (h3 : c.size ≤ 1048576) (t0 : 0 ≤ t) (t1 : t ≤ 1000) : (Rec.mk a k t n b c).smt := ⟨⟨h1, h2, h3⟩, t0, t1⟩

theorem s_l10Zone_p {c : Cur} (h : c.inv) : ∃ z d, s_l10Zone c = some (z, d) ∧ d.inv ∧ z.dz 8 := by
  obtain ⟨t, d1, e1, h1, ht⟩ := s_l1Int_p (l := [5, 60, 300]) h (by decide) (by decide)
  obtain ⟨t0, t1⟩ : 0 ≤ t ∧ t ≤ 1000 := by
    simp only [List.mem_cons, List.not_mem_nil, or_false] at ht
    omega
  have h2 : ∀ (d : Cur) (l : List Rec), d.inv → 0 < l.length → l.length ≤ 8 → (∀ r, r ∈ l → r.smt) → ∃ z q, s_l10Zone_j2 d.b d.i d.h l = some (z, q) ∧ q.inv ∧ z.dz 8 := fun d l hd l0 l1 hl => by
    obtain ⟨m, g1, g2, g3, g4⟩ := s_l10Uniq_p (l := l) (by omega) hl
    unfold s_l10Zone_j2
    rw [g1, bnd1_mk]
    exact ⟨_, _, rfl, hd, (by decide : (⟨#[99, 111, 109]⟩ : ByteArray).size ≤ 1048576), g3 l0, Nat.le_trans g2 l1, g4⟩
  have h3 : ∀ (d : Cur) (l : List Rec), d.inv → 0 < l.length → l.length ≤ 6 → (∀ r, r ∈ l → r.smt) → ∃ z q, s_l10Zone_j1 d.b d.i d.h l = some (z, q) ∧ q.inv ∧ z.dz 8 := fun d l hd l0 l1 hl => by
    obtain ⟨o, d3, e3, g3⟩ := s_l1Once_p (n := 2) hd (by omega) (by omega)
    unfold s_l10Zone_j1
    rw [show Cur.mk d.b d.i d.h = d from rfl, e3, bnd2_mk]
    cases o with
    | false => exact h2 d3 l g3 l0 (by omega) hl
    | true =>
      unfold s_l10Addr
      rw [cond_true, bnd1_mk, grd_pos (by rw [List.length_append]; simp only [List.length_cons, List.length_nil]; omega)]
      exact h2 d3 _ g3 (by rw [List.length_append]; omega) (by rw [List.length_append]; simp only [List.length_cons, List.length_nil]; omega) (mem_app2 hl (mem_two (smt_of (by decide) (by decide) (by decide) (by decide) (by decide)) (smt_of (by decide) (by decide) (by decide) (by decide) (by decide))))
  have h4 : ∀ (d : Cur) (l : List Rec), d.inv → 0 < l.length → l.length ≤ 5 → (∀ r, r ∈ l → r.smt) → ∃ z q, s_l10Zone_j0 d.b d.i d.h l = some (z, q) ∧ q.inv ∧ z.dz 8 := fun d l hd l0 l1 hl => by
    obtain ⟨o, d3, e3, g3⟩ := s_l1Once_p (n := 2) hd (by omega) (by omega)
    unfold s_l10Zone_j0
    rw [show Cur.mk d.b d.i d.h = d from rfl, e3, bnd2_mk]
    cases o with
    | false => exact h3 d3 l g3 l0 (by omega) hl
    | true =>
      rw [cond_true, grd_pos (by rw [List.length_append]; simp only [List.length_cons, List.length_nil]; omega)]
      exact h3 d3 _ g3 (by rw [List.length_append]; omega) (by rw [List.length_append]; simp only [List.length_cons, List.length_nil]; omega) (mem_app2 hl (mem_one (smt_of (by decide) (by decide) (by decide) (by decide) (by decide))))
  obtain ⟨o, d3, e3, g3⟩ := s_l1Once_p (n := 2) h1 (by omega) (by omega)
  unfold s_l10Zone s_l10Start s_l10Server s_l10Addr
  rw [e1, bnd2_mk, bnd1_mk, bnd1_mk, bnd1_mk, e3, bnd2_mk]
  have m0 : ∀ x y z : Rec, x.smt → y.smt → z.smt → ∀ r, r ∈ [x, y, z] → r.smt := fun x y z hx hy hz r hr => by
    cases hr with
    | head => exact hx
    | tail _ hr => exact mem_two hy hz r hr
  have hl : ∀ r, r ∈ [Rec.mk (⟨#[99, 111, 109]⟩ : ByteArray) 6 t (IntKind.i64.wrap (Int.tdiv t 2)) (⟨#[]⟩ : ByteArray) (⟨#[]⟩ : ByteArray), Rec.mk (⟨#[99, 111, 109]⟩ : ByteArray) 2 t 0 (⟨#[110, 115, 46, 99, 111, 109]⟩ : ByteArray) (⟨#[]⟩ : ByteArray), Rec.mk (⟨#[110, 115, 46, 99, 111, 109]⟩ : ByteArray) 1 t 2 (⟨#[]⟩ : ByteArray) (⟨#[]⟩ : ByteArray)] → r.smt :=
    m0 _ _ _ (smt_of (by decide) (by decide) (by decide) t0 t1) (smt_of (by decide) (by decide) (by decide) t0 t1) (smt_of (by decide) (by decide) (by decide) t0 t1)
  cases o with
  | false => exact h4 d3 _ g3 (by simp) (by simp) hl
  | true =>
    rw [cond_true, bnd1_mk, bnd1_mk, grd_pos (by simp)]
    exact h4 d3 _ g3 (by simp) (by simp) (mem_app2 hl (mem_two (smt_of (by decide) (by decide) (by decide) t0 t1) (smt_of (by decide) (by decide) (by decide) t0 t1)))

theorem dz_sm {z : MZone} {n : Nat} (h : z.dz n) (hn : n ≤ 1000) : z.sm := ⟨h.1, by have := h.2.2.1; omega, fun r hr => (h.2.2.2 r hr).1⟩

theorem s_l10Name_p {c : Cur} (h : c.inv) : ∃ s d, s_l10Name c = some (s, d) ∧ d.inv ∧ s.size ≤ 1048576 := by
  unfold s_l10Name
  obtain ⟨s, d3, e3, h3, hs3⟩ := s_l1Str_p (l := [(⟨#[]⟩ : ByteArray), (⟨#[99, 111, 109]⟩ : ByteArray), (⟨#[110, 115, 46, 99, 111, 109]⟩ : ByteArray), (⟨#[101, 120, 46, 99, 111, 109]⟩ : ByteArray), (⟨#[119, 119, 119, 46, 101, 120, 46, 99, 111, 109]⟩ : ByteArray), (⟨#[110, 115, 46, 101, 120, 46, 99, 111, 109]⟩ : ByteArray), (⟨#[119, 119, 119, 46, 99, 111, 109]⟩ : ByteArray), (⟨#[116, 46, 99, 111, 109]⟩ : ByteArray), (⟨#[97, 46, 99, 111, 109]⟩ : ByteArray), (⟨#[98, 46, 97, 46, 99, 111, 109]⟩ : ByteArray), (⟨#[110, 111, 46, 99, 111, 109]⟩ : ByteArray), (⟨#[111, 114, 103]⟩ : ByteArray)]) h (by decide) (by decide)
  rw [e3, bnd2_mk]
  exact ⟨_, _, rfl, h3, small_of rfl hs3⟩

theorem cutsL_srv (apex : ByteArray) : ∀ (l : List Rec) (out : List ByteArray) (x : ByteArray), x ∈ cutsL apex l out → x ∈ out ∨ ∃ r, r ∈ l ∧ r.name = x ∧ r.ty = 2
  | [], out, x, h => .inl h
  | r :: l, out, x, h => by
    unfold cutsL at h
    cases c : cutP apex out r with
    | true =>
      rw [c, cond_true] at h
      rcases cutsL_srv apex l _ x h with h1 | ⟨q, h1, h2⟩
      · rcases List.mem_append.1 h1 with h2 | h2
        · exact .inl h2
        · rw [List.mem_singleton] at h2
          unfold cutP at c
          simp only [Bool.and_eq_true, decide_eq_true_eq] at c
          exact .inr ⟨r, .head _, h2.symm, c.1⟩
      · exact .inr ⟨q, .tail _ h1, h2⟩
    | false =>
      rw [c, cond_false] at h
      rcases cutsL_srv apex l _ x h with h1 | ⟨q, h1, h2⟩
      · exact .inl h1
      · exact .inr ⟨q, .tail _ h1, h2⟩

theorem setOf_pos {l : List Rec} {s : ByteArray} {k : Int} {r : Rec} (hr : r ∈ l) (h1 : r.name = s) (h2 : r.ty = k) : 0 < (setOf l s k).length := by
  unfold setOf
  exact List.length_pos_of_mem (List.mem_filter.2 ⟨hr, by simp [h1, h2]⟩)

theorem cutOf_srv {z : MZone} {s : ByteArray} (h : (cutOf z s).2 = true) : (cutOf z s).1 ∈ cutsOf z ∧ under s (cutOf z s).1 = true ∧ 0 < (setOf z.l (cutOf z s).1 2).length := by
  unfold cutOf at h ⊢
  cases hf : (cutsOf z).find? (under s) with
  | none => rw [hf] at h; cases h
  | some c =>
    have hm := List.mem_of_find?_eq_some hf
    refine ⟨hm, List.find?_some hf, ?_⟩
    rcases cutsL_srv _ _ _ _ hm with h1 | ⟨r, h1, h2, h3⟩
    · cases h1
    · exact setOf_pos h1 h2 h3

def z1 (t : Int) (a : Bool) : List Rec := bif a then [Rec.mk (⟨#[99, 111, 109]⟩ : ByteArray) 6 t (IntKind.i64.wrap (Int.tdiv t 2)) (⟨#[]⟩ : ByteArray) (⟨#[]⟩ : ByteArray), Rec.mk (⟨#[99, 111, 109]⟩ : ByteArray) 2 t 0 (⟨#[110, 115, 46, 99, 111, 109]⟩ : ByteArray) (⟨#[]⟩ : ByteArray), Rec.mk (⟨#[110, 115, 46, 99, 111, 109]⟩ : ByteArray) 1 t 2 (⟨#[]⟩ : ByteArray) (⟨#[]⟩ : ByteArray)] ++ [Rec.mk (⟨#[101, 120, 46, 99, 111, 109]⟩ : ByteArray) 2 t 0 (⟨#[110, 115, 46, 101, 120, 46, 99, 111, 109]⟩ : ByteArray) (⟨#[]⟩ : ByteArray), Rec.mk (⟨#[110, 115, 46, 101, 120, 46, 99, 111, 109]⟩ : ByteArray) 1 t 3 (⟨#[]⟩ : ByteArray) (⟨#[]⟩ : ByteArray)]
  else [Rec.mk (⟨#[99, 111, 109]⟩ : ByteArray) 6 t (IntKind.i64.wrap (Int.tdiv t 2)) (⟨#[]⟩ : ByteArray) (⟨#[]⟩ : ByteArray), Rec.mk (⟨#[99, 111, 109]⟩ : ByteArray) 2 t 0 (⟨#[110, 115, 46, 99, 111, 109]⟩ : ByteArray) (⟨#[]⟩ : ByteArray), Rec.mk (⟨#[110, 115, 46, 99, 111, 109]⟩ : ByteArray) 1 t 2 (⟨#[]⟩ : ByteArray) (⟨#[]⟩ : ByteArray)]

def z2 (b : Bool) (l : List Rec) : List Rec := bif b then l ++ [Rec.mk (⟨#[119, 119, 119, 46, 99, 111, 109]⟩ : ByteArray) 5 9 0 (⟨#[97, 46, 111, 114, 103]⟩ : ByteArray) (⟨#[]⟩ : ByteArray)] else l

def z3 (c : Bool) (l : List Rec) : List Rec := bif c then l ++ [Rec.mk (⟨#[116, 46, 99, 111, 109]⟩ : ByteArray) 16 7 0 (⟨#[]⟩ : ByteArray) (⟨#[104, 105]⟩ : ByteArray), Rec.mk (⟨#[98, 46, 97, 46, 99, 111, 109]⟩ : ByteArray) 1 9 8 (⟨#[]⟩ : ByteArray) (⟨#[]⟩ : ByteArray)] else l

/-- What is to be shown of a zone, whatever is asked. -/
def zfit (z : MZone) : Bool := zoneI z && (inZone z z.apex && (z.l.any (fun r => under r.name z.apex) && (decide ((first (fun r => decide (r.ty = 6)) z.l).name = z.apex)
  && ((cutsOf z).all (fun x => under x z.apex && (!decide (x = z.apex) && (decide (0 < (setOf z.l x 2).length) && !inZone z x))) && z.l.all (fun r => (inZone z r.name || (decide (r.ty = 2) || decide (r.ty = 1))) && z.l.any (fun y => under y.name r.name))))))

def zck (t : Int) (a b c : Bool) : Bool := match s_l10Uniq (z3 c (z2 b (z1 t a))) with
  | some l => zfit ⟨⟨#[99, 111, 109]⟩, l⟩
  | none => false

theorem zck_all : ([5, 60, 300] : List Int).all (fun t => [true, false].all fun a => [true, false].all fun b => [true, false].all fun c => zck t a b c) = true := by kernel_rfl

theorem zck_of {t : Int} (ht : t ∈ ([5, 60, 300] : List Int)) (a b c : Bool) : zck t a b c = true := by
  have h := zck_all
  simp only [List.all_eq_true] at h
  have hb : ∀ x : Bool, x ∈ [true, false] := fun x => by cases x <;> simp
  exact h t ht a (hb a) b (hb b) c (hb c)

theorem zfit_of {t : Int} {a b c : Bool} {l : List Rec} (h : zck t a b c = true) (hl : s_l10Uniq (z3 c (z2 b (z1 t a))) = some l) : zfit ⟨⟨#[99, 111, 109]⟩, l⟩ = true := by
  unfold zck at h
  rw [hl] at h
  exact h

theorem s_l10Zone_c {c : Cur} (h : c.inv) : ∃ z d, s_l10Zone c = some (z, d) ∧ d.inv ∧ zfit z = true := by
  obtain ⟨t, d1, e1, h1, ht⟩ := s_l1Int_p (l := [5, 60, 300]) h (by decide) (by decide)
  have h2 : ∀ (d : Cur) (a b c : Bool), d.inv → (∃ m, s_l10Uniq (z3 c (z2 b (z1 t a))) = some m) → ∃ z q, s_l10Zone_j2 d.b d.i d.h (z3 c (z2 b (z1 t a))) = some (z, q) ∧ q.inv ∧ zfit z = true := fun d a b c hd hm => by
    obtain ⟨m, g1⟩ := hm
    unfold s_l10Zone_j2
    rw [g1, bnd1_mk]
    exact ⟨_, _, rfl, hd, zfit_of (zck_of ht a b c) g1⟩
  have h0 : ∀ a b c : Bool, ∃ m, s_l10Uniq (z3 c (z2 b (z1 t a))) = some m := fun a b c => by
    have := zck_of ht a b c
    unfold zck at this
    cases hx : s_l10Uniq (z3 c (z2 b (z1 t a))) with
    | some m => exact ⟨m, rfl⟩
    | none => rw [hx] at this; cases this
  have hlen : ∀ a b c : Bool, (z3 c (z2 b (z1 t a))).length ≤ 8 := fun a b c => by cases a <;> cases b <;> cases c <;> simp [z1, z2, z3]
  have h3 : ∀ (d : Cur) (a b : Bool), d.inv → ∃ z q, s_l10Zone_j1 d.b d.i d.h (z2 b (z1 t a)) = some (z, q) ∧ q.inv ∧ zfit z = true := fun d a b hd => by
    obtain ⟨o, d3, e3, g3⟩ := s_l1Once_p (n := 2) hd (by omega) (by omega)
    have hl := hlen a b true
    unfold s_l10Zone_j1
    rw [show Cur.mk d.b d.i d.h = d from rfl, e3, bnd2_mk]
    cases o with
    | false => exact h2 d3 a b false g3 (h0 a b false)
    | true =>
      unfold s_l10Addr
      unfold z3 at hl
      rw [cond_true] at hl
      rw [cond_true, bnd1_mk, grd_pos (by omega)]
      exact h2 d3 a b true g3 (h0 a b true)
  have h4 : ∀ (d : Cur) (a : Bool), d.inv → ∃ z q, s_l10Zone_j0 d.b d.i d.h (z1 t a) = some (z, q) ∧ q.inv ∧ zfit z = true := fun d a hd => by
    obtain ⟨o, d3, e3, g3⟩ := s_l1Once_p (n := 2) hd (by omega) (by omega)
    have hl := hlen a true false
    unfold s_l10Zone_j0
    rw [show Cur.mk d.b d.i d.h = d from rfl, e3, bnd2_mk]
    cases o with
    | false => exact h3 d3 a false g3
    | true =>
      unfold z3 z2 at hl
      rw [cond_true, cond_false] at hl
      rw [cond_true, grd_pos (by omega)]
      exact h3 d3 a true g3
  obtain ⟨o, d3, e3, g3⟩ := s_l1Once_p (n := 2) h1 (by omega) (by omega)
  unfold s_l10Zone s_l10Start s_l10Server s_l10Addr
  rw [e1, bnd2_mk, bnd1_mk, bnd1_mk, bnd1_mk, e3, bnd2_mk]
  cases o with
  | false => exact h4 d3 false g3
  | true =>
    rw [cond_true, bnd1_mk, bnd1_mk, grd_pos (by simp)]
    exact h4 d3 true g3

theorem s_DrawZone_c {b : List Int} (hb : b.length ≤ 1048576) : ∃ z q, s_DrawZone b = some (z, q) ∧ z.sm ∧ zfit z = true ∧ q.sm := by
  obtain ⟨c, e, hc⟩ := s_l1New_p hb
  obtain ⟨z, d1, e1, h1, hz⟩ := s_l10Zone_c hc
  obtain ⟨z', d1', e1', -, hd⟩ := s_l10Zone_p hc
  rw [e1] at e1'
  obtain ⟨rfl, rfl⟩ := Prod.mk.inj (Option.some.inj e1')
  obtain ⟨s, d2, e2, h2, hs⟩ := s_l10Name_p h1
  obtain ⟨k, d3, e3, h3, -⟩ := s_l5Type_p h2
  unfold s_DrawZone
  rw [e, bnd1_mk, e1, bnd2_mk, e2, bnd2_mk, e3, bnd2_mk]
  exact ⟨z, _, rfl, dz_sm hd (by omega), hz, hs⟩

theorem zones_l6 {z : MZone} (hz : z.sm) (hf : (first (fun r => decide (r.ty = 6)) z.l).name = z.apex) (ha : ∀ r, r ∈ z.l → (inZone z r.name || (decide (r.ty = 2) || decide (r.ty = 1))) = true ∧ z.l.any (fun y => under y.name r.name) = true) : ∀ (l : List Rec) (i : Nat), (∀ r, r ∈ l → r ∈ z.l) → w_FnZones_l6 z l i = some true
  | [], i, _ => by
    rw [w_FnZones_l6]; unfold w_FnZones_j5
    rw [i_StartOf_eq, bnd1_mk, decide_eq_true hf]
  | r :: l, i, h => by
    have hr := h r (.head _)
    obtain ⟨h1, h2⟩ := ha r hr
    have hs := (hz.2.2 r hr).1
    have ih := zones_l6 hz hf ha l (i + 1) fun x hx => h x (.tail _ hx)
    have hj : w_FnZones_j7 i (w_FnZones_l6 z l) false = some true := by unfold w_FnZones_j7; rw [cond_false]; exact ih
    rw [w_FnZones_l6, i_InZone_eq hz hs, bnd1_mk, i_Exists_eq hz.2 hs, bnd1_mk, h2, Bool.not_true, hj]
    revert h1
    cases inZone z r.name <;> cases decide (r.ty = 2) <;> cases decide (r.ty = 1) <;> simp

theorem zones_l3 {z : MZone} (hz : z.sm) (h6 : w_FnZones_j2 z = some true) (ha : ∀ x, x ∈ cutsOf z → 0 < (setOf z.l x 2).length ∧ inZone z x = false) : ∀ (l : List ByteArray) (i : Nat), (∀ x, x ∈ l → x ∈ cutsOf z) → w_FnZones_l3 z l i = some true
  | [], i, _ => h6
  | x :: l, i, h => by
    have hx := h x (.head _)
    obtain ⟨h1, h2⟩ := ha x hx
    have hs := (cutsOf_sm hz).2 x hx
    have ih := zones_l3 hz h6 ha l (i + 1) fun y hy => h y (.tail _ hy)
    have n1 : ¬ (((setOf z.l x 2).length : Int) = 0) := by omega
    rw [w_FnZones_l3, i_SetOf_eq hz.2, bnd1_mk, decide_eq_false n1, cond_false, i_InZone_eq hz hs, bnd1_mk, h2]
    unfold w_FnZones_j4
    rw [cond_false]; exact ih

theorem law_FnZones {p : List Int} {h : Prop} (_ : h) : w_FnZones p = some true := by
  unfold w_FnZones
  rw [w_big_eq, bnd1_mk]
  by_cases c0 : 1048576 < (p.length : Int)
  · rw [decide_eq_true c0]; rfl
  have hb : p.length ≤ 1048576 := by omega
  obtain ⟨z, q, e1, hz, hf, hq⟩ := s_DrawZone_c hb
  unfold zfit at hf
  simp only [Bool.and_eq_true, List.all_eq_true, decide_eq_true_eq, Bool.not_eq_true', decide_eq_false_iff_not] at hf
  obtain ⟨f1, f2, f3, f4, f5, f6⟩ := hf
  have hj2 : w_FnZones_j2 z = some true := zones_l6 hz f4 (fun r hr => f6 r hr) z.l 0 fun _ h => h
  have hj1 : w_FnZones_j1 z (cutsOf z) false = some true := by
    unfold w_FnZones_j1
    rw [cond_false]
    exact zones_l3 hz hj2 (fun x hx => ⟨(f5 x hx).2.2.1, (f5 x hx).2.2.2⟩) _ 0 fun _ h => h
  have hj0 : w_FnZones_j0 z q (cutOf z q.name).1 (cutOf z q.name).2 (cutsOf z) false = some true := by
    unfold w_FnZones_j0
    rw [cond_false]
    cases hc : (cutOf z q.name).2 with
    | false => rw [cond_false]; exact hj1
    | true =>
      obtain ⟨m1, m2, -⟩ := cutOf_srv hc
      obtain ⟨k1, k2, -⟩ := f5 _ m1
      have hs := (cutsOf_sm hz).2 _ m1
      rw [cond_true, i_Under_eq hq hs, bnd1_mk, m2, Bool.not_true, cond_false, decide_eq_false k2, cond_false, i_Under_eq hs hz.1, bnd1_mk, k1, Bool.not_true]
      exact hj1
  have hst : ∀ a : Rec, (!(decide (a.name = a.name) && (decide (a.ty = a.ty) && (decide (a.ttl = a.ttl) && (decide (a.n = a.n) && (decide (a.host = a.host) && (decide (a.text = a.text) && true))))))) = false := fun a => by simp
  rw [decide_eq_false c0, cond_false, e1, bnd2_mk, i_CutOf_eq hz hq, bnd2_pair, i_CutsOf_eq hz, bnd1_mk, i_ZoneOk_eq hz, bnd1_mk, f1, Bool.not_true, cond_false, i_InZone_eq hz hq, bnd1_mk, i_Under_eq hq hz.1, bnd1_mk, i_InZone_eq hz hz.1, bnd1_mk, f2, Bool.not_true, cond_false, i_Exists_eq hz.2 hz.1, bnd1_mk, f3, Bool.not_true, cond_false, i_StartOf_eq, bnd1_mk, s_StartOf_eq, bnd1_mk, hst]
  unfold inZone
  cases under q.name z.apex with
  | true => rw [Bool.true_and, beq_self_eq_true, Bool.not_true, cond_true, cond_false]; exact hj0
  | false => rw [Bool.false_and, beq_self_eq_true, Bool.not_true, cond_false, cond_false]; exact hj0
end Go.Abs.M
