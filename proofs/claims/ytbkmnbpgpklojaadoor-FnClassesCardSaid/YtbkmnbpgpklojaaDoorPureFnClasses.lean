/- The pure law of FnClasses: its pure function answers true. -/
import Derived.Test.YtbkmnbpgpklojaaDoorFnsFnClasses
set_option linter.unusedSimpArgs false
set_option linter.unusedVariables false
namespace Go.Abs.M
open Go Go.Abs
theorem idx_nat {α : Type} {l : List α} {n : Nat} : idx l (n : Int) = l[n]? := by simp [idx]

theorem int_succ_ne (n : Nat) : ((n : Int) + 1 = 0) ↔ False := ⟨fun h => by omega, False.elim⟩

theorem idx_zero {α : Type} {l : List α} : idx l 0 = l[0]? := by simp [idx]

def zrec : Rec := ⟨⟨#[]⟩, 0, 0, 0, ⟨#[]⟩, ⟨#[]⟩⟩

def first (p : Rec → Bool) (l : List Rec) : Rec := (l.find? p).getD zrec

theorem i_firstOf_l1_eq : ∀ (l : List Rec) (k : Int) (i : Nat), i_firstOf_l1 k l i = some (first (fun r => decide (r.ty = k)) l)
  | [], k, i => rfl
  | r :: l, k, i => by
    rw [i_firstOf_l1, i_firstOf_l1_eq l k (i + 1)]
    by_cases c : r.ty = k <;> simp [first, c]

theorem i_firstOf_eq {l : List Rec} {k : Int} : i_firstOf l k = some (first (fun r => decide (r.ty = k)) l) := i_firstOf_l1_eq _ _ _

theorem i_StartOf_eq {z : MZone} : i_StartOf z = some (first (fun r => decide (r.ty = 6)) z.l) := by unfold i_StartOf; rw [i_firstOf_eq]; rfl

def setOf (l : List Rec) (nm : ByteArray) (k : Int) : List Rec := l.filter fun r => decide (r.name = nm) && decide (r.ty = k)

theorem setOf_len (l : List Rec) (nm : ByteArray) (k : Int) : (setOf l nm k).length ≤ l.length := List.length_filter_le ..

theorem i_SetOf_l0_eq (nm : ByteArray) (k : Int) : ∀ (l out : List Rec) (i : Nat), out.length + l.length ≤ 1099511627776 → i_SetOf_l0 nm k l out i = some (out ++ setOf l nm k)
  | [], out, i, _ => by simp [i_SetOf_l0, setOf]
  | r :: l, out, i, h => by
    simp only [List.length_cons] at h
    have h1 := i_SetOf_l0_eq nm k l (out ++ [r]) (i + 1) (by simp; omega)
    have h2 := i_SetOf_l0_eq nm k l out (i + 1) (by omega)
    rw [i_SetOf_l0]
    by_cases c : r.name = nm <;> by_cases c' : r.ty = k <;> simp [i_SetOf_j1, c, c', h2, setOf] <;> first
      | (rw [grd_pos (by omega), h1]; simp [setOf, c, c'])

def aliasIn (m : MMsg) : Rec × Bool := match setOf m.an m.q.name 5 with | [] => (zrec, false) | r :: _ => (r, true)

def Rec.sm (r : Rec) : Prop := r.name.size ≤ 1048576 ∧ r.host.size ≤ 1048576 ∧ r.text.size ≤ 1048576

def smL (l : List Rec) : Prop := l.length ≤ 1048576 ∧ ∀ r, r ∈ l → r.sm

def MZone.sm (z : MZone) : Prop := z.apex.size ≤ 1048576 ∧ smL z.l

def Quest.sm (q : Quest) : Prop := q.name.size ≤ 1048576

def MMsg.sm (m : MMsg) : Prop := m.q.sm ∧ smL m.an ∧ smL m.au ∧ smL m.ad

theorem setOf_sm {l : List Rec} (h : smL l) (nm : ByteArray) (k : Int) : smL (setOf l nm k) := ⟨Nat.le_trans (setOf_len l nm k) h.1, fun r hr => h.2 r ((List.mem_filter.1 hr).1)⟩

theorem i_SetOf_eq {l : List Rec} {nm : ByteArray} {k : Int} (h : smL l) : i_SetOf l nm k = some (setOf l nm k) := by
  unfold i_SetOf; rw [i_SetOf_l0_eq _ _ _ _ _ (by have := h.1; simp; omega)]; rfl

theorem i_AliasIn_eq {m : MMsg} (h : m.sm) : i_AliasIn m = some (aliasIn m) := by
  unfold i_AliasIn aliasIn
  rw [i_SetOf_eq h.2.1, bnd1_mk]
  cases setOf m.an m.q.name 5 with
  | nil => rfl
  | cons r l => simp [idx_zero, int_succ_ne]

def mkB (l : List UInt8) : ByteArray := ⟨l.toArray⟩

def bts (s : ByteArray) : List UInt8 := s.data.toList

theorem mkB_bts (s : ByteArray) : mkB (bts s) = s := rfl

theorem bts_len (s : ByteArray) : (bts s).length = s.size := rfl

theorem bts_inj {a b : ByteArray} : bts a = bts b ↔ a = b := ⟨fun h => by rw [← mkB_bts a, ← mkB_bts b, h], fun h => by rw [h]⟩

theorem bts_nil_iff (s : ByteArray) : s = ⟨#[]⟩ ↔ bts s = [] := ⟨fun h => by subst h; rfl, fun h => bts_inj.1 (by rw [h]; rfl)⟩

theorem bts_extract (s : ByteArray) (a b : Nat) : bts (s.extract a b) = ((bts s).drop a).take (b - a) := by
  unfold bts
  rw [ByteArray.data_extract, Array.toList_extract, List.extract_eq_take_drop]

theorem extract_mkB (s : ByteArray) (a b : Nat) : s.extract a b = mkB (((bts s).drop a).take (b - a)) := by
  rw [← mkB_bts (s.extract a b), bts_extract]

theorem sidx_nat {s : ByteArray} {n : Nat} {b : UInt8} (h : (bts s)[n]? = some b) : sidx s (n : Int) = some (b.toNat : Int) := by
  obtain ⟨h1, h2⟩ := List.getElem?_eq_some_iff.1 h
  have h3 : n < s.size := h1
  unfold sidx
  rw [dif_pos ⟨by omega, by simpa using h3⟩]
  subst h2
  rfl

/-- The parts of bytes between the dots. -/
def segs : List UInt8 → List UInt8 → List (List UInt8)
  | cur, [] => [cur]
  | cur, b :: l => if b = 46 then cur :: segs [] l else segs (cur ++ [b]) l

def labels (s : ByteArray) : List ByteArray := if bts s = [] then [] else (segs [] (bts s)).map mkB

theorem segs_len : ∀ (l cur : List UInt8), (segs cur l).length ≤ l.length + 1
  | [], cur => by simp [segs]
  | b :: l, cur => by
    unfold segs
    split
    · have := segs_len l []; simp; omega
    · have := segs_len l (cur ++ [b]); simp; omega

theorem labels_len (s : ByteArray) : (labels s).length ≤ s.size + 1 := by
  unfold labels
  split
  · simp
  · have := segs_len (bts s) []
    rw [bts_len] at this
    simpa using this

theorem u8_eq46 (b : UInt8) : ((b.toNat : Int) = 46) ↔ b = 46 := by
  constructor
  · intro h
    have : b.toNat = 46 := by omega
    exact UInt8.toNat_inj.1 this
  · intro h; subst h; rfl

/-- The loop of the reference's Labels: from the place i on, the part having begun at the place f. -/
theorem s_Labels_l0_eq (s : ByteArray) (hs : s.size ≤ 1048576) (hne : s ≠ ⟨#[]⟩) : ∀ (k : Nat) (i f fl : Nat) (out : List ByteArray), s.size - i = k → f ≤ i → i ≤ s.size → out.length ≤ f → k + 1 < fl →
    s_Labels_l0 s fl out (f : Int) (i : Int) = some (out ++ (segs (((bts s).drop f).take (i - f)) ((bts s).drop i)).map mkB)
  | 0, i, f, fl, out, hk, hfi, hi, ho, hfl => by
    obtain ⟨fl, rfl⟩ : ∃ q, fl = q + 1 := ⟨fl - 1, by omega⟩
    obtain ⟨fl, rfl⟩ : ∃ q, fl = q + 1 := ⟨fl - 1, by omega⟩
    have hie : i = s.size := by omega
    rw [s_Labels_l0]
    have e1 : (bts s).drop i = [] := List.drop_eq_nil_of_le (by rw [bts_len]; omega)
    rw [e1]
    simp only [segs, List.map_cons, List.map_nil]
    have c1 : decide ((i : Int) ≤ (s.size : Int)) = true := by simpa using hi
    have c2 : (!decide (s = (⟨#[]⟩ : ByteArray))) = true := by simpa using hne
    rw [c1, c2, cond_true, s_Labels_j1, cond_true]
    have c3 : decide ((i : Int) = (s.size : Int)) = true := by simp [hie]
    rw [c3, cond_true, s_Labels_j2, cond_true, grd_pos (by omega), grd_pos (by simp; omega), grd_pos (by simp only [i64]; omega), grd_pos (by simp only [i64]; omega), s_Labels_l0]
    have c4 : decide ((i : Int) + 1 ≤ (s.size : Int)) = false := by simp; omega
    rw [c4, cond_false, s_Labels_j1, cond_false, extract_mkB]
    simp
  | k + 1, i, f, fl, out, hk, hfi, hi, ho, hfl => by
    obtain ⟨fl, rfl⟩ : ∃ q, fl = q + 1 := ⟨fl - 1, by omega⟩
    have hlt : i < (bts s).length := by rw [bts_len]; omega
    rw [s_Labels_l0]
    have c1 : decide ((i : Int) ≤ (s.size : Int)) = true := by simpa using hi
    have c2 : (!decide (s = (⟨#[]⟩ : ByteArray))) = true := by simpa using hne
    rw [c1, c2, cond_true, s_Labels_j1, cond_true]
    have c3 : decide ((i : Int) = (s.size : Int)) = false := by simp; omega
    have hb : (bts s)[i]? = some (bts s)[i] := List.getElem?_eq_getElem hlt
    rw [c3, cond_false, sidx_nat hb, bnd1_mk, List.drop_eq_getElem_cons hlt, segs]
    have e2 : ((i : Int) + 1) = ((i + 1 : Nat) : Int) := by omega
    by_cases c : (bts s)[i] = 46
    · rw [if_pos c]
      have c5 : decide ((((bts s)[i]).toNat : Int) = 46) = true := by simpa using (u8_eq46 _).2 c
      rw [c5, s_Labels_j2, cond_true, grd_pos (by omega), grd_pos (by simp; omega), grd_pos (by simp only [i64]; omega), grd_pos (by simp only [i64]; omega), e2,
        s_Labels_l0_eq s hs hne k (i + 1) (i + 1) fl _ (by omega) (by omega) (by omega) (by simp; omega) (by omega), extract_mkB]
      simp
    · rw [if_neg c]
      have c5 : decide ((((bts s)[i]).toNat : Int) = 46) = false := by
        have := fun h => c ((u8_eq46 _).1 h)
        simpa using this
      rw [c5, s_Labels_j2, cond_false, grd_pos (by simp only [i64]; omega), e2, s_Labels_l0_eq s hs hne k (i + 1) f fl _ (by omega) (by omega) (by omega) ho (by omega)]
      have e3 : ((bts s).drop f).take (i + 1 - f) = ((bts s).drop f).take (i - f) ++ [(bts s)[i]] := by
        rw [show i + 1 - f = (i - f) + 1 by omega, List.take_add_one]
        congr 1
        rw [List.getElem?_drop, show f + (i - f) = i by omega, hb]
        rfl
      rw [e3]

theorem s_Labels_eq {s : ByteArray} (hs : s.size ≤ 1048576) : s_Labels s = some (labels s) := by
  unfold s_Labels
  by_cases hne : s = ⟨#[]⟩
  · subst hne
    have : fuel0 = 4611686018427387903 + 1 := rfl
    rw [this, s_Labels_l0]
    rfl
  · have h := s_Labels_l0_eq s hs hne s.size 0 0 fuel0 [] (by omega) (by omega) (by omega) (by simp) (by unfold fuel0; omega)
    have e : bts s ≠ [] := fun h => hne ((bts_nil_iff s).2 h)
    simpa [labels, e] using h

theorem indexByte_none : ∀ {l : List UInt8}, Lib.indexByte l 46 = -1 → ∀ cur, segs cur l = [cur ++ l]
  | [], _, cur => by simp [segs]
  | b :: l, h, cur => by
    unfold Lib.indexByte at h
    by_cases c : b = 46
    · subst c; simp at h
    · have hb : (b == (46 : UInt8)) = false := by simpa using c
      rw [hb] at h
      simp only [Bool.false_eq_true, if_false] at h
      by_cases c' : Lib.indexByte l 46 = -1
      · rw [segs, if_neg c, indexByte_none c']; simp
      · have h1 := Lib.indexByte_ge l 46
        rw [if_neg (by simpa using c')] at h
        omega

theorem indexByte_some : ∀ {l : List UInt8} {k : Nat}, Lib.indexByte l 46 = (k : Int) → k < l.length ∧ ∀ cur, segs cur l = (cur ++ l.take k) :: segs [] (l.drop (k + 1))
  | [], k, h => by simp [Lib.indexByte] at h
  | b :: l, k, h => by
    unfold Lib.indexByte at h
    by_cases c : b = 46
    · subst c
      simp at h
      have : k = 0 := by omega
      subst this
      exact ⟨by simp, fun cur => by simp [segs]⟩
    · have hb : (b == (46 : UInt8)) = false := by simpa using c
      rw [hb] at h
      simp only [Bool.false_eq_true, if_false] at h
      have h1 := Lib.indexByte_ge l 46
      by_cases c' : Lib.indexByte l 46 = -1
      · rw [if_pos (by simpa using c')] at h; omega
      · rw [if_neg (by simpa using c')] at h
        obtain ⟨q, rfl⟩ : ∃ q, k = q + 1 := ⟨k - 1, by omega⟩
        obtain ⟨h2, h3⟩ := indexByte_some (l := l) (k := q) (by omega)
        exact ⟨by simp; omega, fun cur => by rw [segs, if_neg c, h3]; simp⟩

theorem count_segs : ∀ (l cur : List UInt8), (segs cur l).length = Lib.countByte l 46 + 1
  | [], cur => by simp [segs, Lib.countByte]
  | b :: l, cur => by
    unfold segs
    by_cases c : b = 46
    · subst c; rw [if_pos rfl, List.length_cons, count_segs l []]; simp [Lib.countByte]
    · rw [if_neg c, count_segs l]; simp [Lib.countByte, c]

theorem dotB : (⟨#[46]⟩ : ByteArray).size = 1 := rfl

theorem dot_sidx : sidx (⟨#[46]⟩ : ByteArray) 0 = some 46 := rfl

theorem strings_Index_dot {s : ByteArray} : strings_Index s ⟨#[46]⟩ = some (if s = ⟨#[46]⟩ then 0 else Lib.indexByte (bts s) 46) := by
  unfold strings_Index internal_stringslite_Index
  rw [dotB]
  by_cases c : s = ⟨#[46]⟩
  · subst c; simp [internal_stringslite_Index_j0]
  · have c' : ¬ ((⟨#[46]⟩ : ByteArray) = s) := fun h => c h.symm
    simp [internal_stringslite_Index_j0, c, c', dotB, dot_sidx, internal_stringslite_IndexByte]
    rfl

theorem strings_Index_dot' {s : ByteArray} : strings_Index s ⟨#[46]⟩ = some (Lib.indexByte (bts s) 46) := by
  rw [strings_Index_dot]
  by_cases c : s = ⟨#[46]⟩
  · subst c; rfl
  · rw [if_neg c]

theorem segs_pos (cur l : List UInt8) : 1 ≤ (segs cur l).length := by rw [count_segs]; omega

theorem idx_cases (l : List UInt8) : Lib.indexByte l 46 = -1 ∨ ∃ k : Nat, Lib.indexByte l 46 = (k : Int) := by
  have h := Lib.indexByte_ge l 46
  rcases Int.lt_or_le (Lib.indexByte l 46) 0 with h1 | h1
  · exact .inl (by omega)
  · exact .inr ⟨(Lib.indexByte l 46).toNat, by omega⟩

theorem genSplit_j1_eq {r : ByteArray} {a : List ByteArray} {i : Nat} (hi : i < a.length) (ha : a.length ≤ 1099511627776) : strings_genSplit_j1 r a (i : Int) = some (a.take i ++ [r]) := by
  unfold strings_genSplit_j1
  rw [idx_nat, List.getElem?_eq_getElem hi, bnd1_mk, grd_pos (by simp only [i64]; omega), grd_pos (by omega)]
  congr 1
  have e : ((i : Int) + 1).toNat - ((0 : Nat) : Int).toNat = i + 1 := by omega
  have e2 : (0 + ((0 : Nat) : Int).toNat) = 0 := by omega
  rw [e, e2, List.drop_zero, Int.toNat_natCast, List.take_add_one, List.take_set_of_le (Nat.le_refl i), List.getElem?_set_self hi]
  rfl

theorem genSplit_l2_eq (p0 : ByteArray) (j : Int) (n : Nat) (hj : (if (p0.size : Int) + 1 < j then (p0.size : Int) + 1 else j) - 1 = (n : Int)) : ∀ (k i fl : Nat) (r : ByteArray) (a : List ByteArray), n - i = k → i ≤ n → k < fl → a.length = n + 1 → a.length ≤ 1099511627776 → (segs [] (bts r)).length = n + 1 - i → r.size ≤ 1048576 →
    strings_genSplit_l2 p0 ⟨#[46]⟩ 0 j fl r a (i : Int) = some (a.take i ++ (segs [] (bts r)).map mkB)
  | 0, i, fl, r, a, hk, hi, hf, ha, ha', hs, hr => by
    obtain ⟨fl, rfl⟩ : ∃ q, fl = q + 1 := ⟨fl - 1, by omega⟩
    have hin : i = n := by omega
    rw [strings_genSplit_l2, hj]
    have c : decide ((i : Int) < (n : Int)) = false := by simp; omega
    rw [c, cond_false, genSplit_j1_eq (by omega) ha']
    rcases idx_cases (bts r) with h | ⟨q, h⟩
    · rw [indexByte_none h]; rfl
    · have h1 := (indexByte_some h).2 []
      have h2 := segs_pos [] ((bts r).drop (q + 1))
      rw [h1] at hs
      simp only [List.length_cons] at hs
      omega
  | k + 1, i, fl, r, a, hk, hi, hf, ha, ha', hs, hr => by
    obtain ⟨fl, rfl⟩ : ∃ q, fl = q + 1 := ⟨fl - 1, by omega⟩
    rw [strings_genSplit_l2, hj]
    have c : decide ((i : Int) < (n : Int)) = true := by simp; omega
    rw [c, cond_true, strings_Index_dot', bnd1_mk]
    rcases idx_cases (bts r) with h | ⟨q, h⟩
    · rw [indexByte_none h] at hs
      simp at hs
      omega
    · obtain ⟨h1, h2⟩ := indexByte_some h
      have h2 := h2 []
      rw [bts_len] at h1
      have hi' : i < a.length := by omega
      rw [h, dotB]
      have c' : decide ((q : Int) < 0) = false := by simp
      have e1 : ((i : Int) + 1) = ((i + 1 : Nat) : Int) := by omega
      rw [c', cond_false, grd_pos (by simp only [i64]; omega), grd_pos (by omega), idx_nat, List.getElem?_eq_getElem hi', bnd1_mk, grd_pos (by simp only [i64]; omega), grd_pos (by omega), grd_pos (by simp only [i64]; omega), e1]
      have e2 : bts (r.extract ((q : Int) + ((1 : Nat) : Int)).toNat (r.size : Int).toNat) = (bts r).drop (q + 1) := by
        rw [bts_extract]
        have e3 : ((q : Int) + ((1 : Nat) : Int)).toNat = q + 1 := by omega
        rw [e3, List.take_of_length_le (by rw [List.length_drop, bts_len]; omega)]
      rw [h2, List.length_cons] at hs
      rw [genSplit_l2_eq p0 j n hj k (i + 1) fl _ _ (by omega) (by omega) (by omega) (by simp [ha]) (by simp [ha']) (by rw [e2]; omega) (by rw [ByteArray.size_extract]; omega), e2, h2]
      congr 1
      rw [Int.toNat_natCast, List.take_add_one, List.take_set_of_le (Nat.le_refl i), List.getElem?_set_self hi', extract_mkB]
      have e4 : ((q : Int) + 0).toNat - ((0 : Nat) : Int).toNat = q := by omega
      rw [e4]
      simp

theorem strings_Count_dot {s : ByteArray} : strings_Count s ⟨#[46]⟩ = some ((Lib.countByte (bts s) 46 : Nat) : Int) := by
  unfold strings_Count
  have c1 : decide (((⟨#[46]⟩ : ByteArray).size : Int) = 0) = false := by rw [dotB]; decide
  have c2 : decide (((⟨#[46]⟩ : ByteArray).size : Int) = 1) = true := by rw [dotB]; decide
  have h46 : (46 : Int).toNat.toUInt8 = 46 := by decide
  rw [c1, cond_false, c2, cond_true, dot_sidx, bnd1_mk, h46]
  rfl

theorem i_Labels_eq {s : ByteArray} (hs : s.size ≤ 1048576) : i_Labels s = some (labels s) := by
  unfold i_Labels
  by_cases hne : s = ⟨#[]⟩
  · subst hne
    have e : bts (⟨#[]⟩ : ByteArray) = [] := rfl
    simp [labels, e]
  · have e : bts s ≠ [] := fun h => hne ((bts_nil_iff s).2 h)
    have hne' : ¬ ((⟨#[46]⟩ : ByteArray) = ⟨#[]⟩) := by decide
    have hc := count_segs (bts s) []
    have hl := segs_len (bts s) []
    rw [bts_len] at hl
    have e0 := strings_Count_dot (s := s)
    have hjj : (if (s.size : Int) + 1 < ((Lib.countByte (bts s) 46 : Nat) : Int) + 1 then (s.size : Int) + 1 else ((Lib.countByte (bts s) 46 : Nat) : Int) + 1) = ((Lib.countByte (bts s) 46 : Nat) : Int) + 1 := by rw [if_neg (by omega)]
    have hloop := genSplit_l2_eq s (((Lib.countByte (bts s) 46 : Nat) : Int) + 1) (Lib.countByte (bts s) 46) (by rw [hjj]; omega) (Lib.countByte (bts s) 46) 0 fuel0 s (List.replicate (((Lib.countByte (bts s) 46 : Nat) : Int) + 1).toNat ⟨#[]⟩) (by omega) (by omega) (by unfold fuel0; omega) (by simp) (by simp; omega) (by omega) hs
    have g0 : decide ((-1 : Int) = 0) = false := by decide
    have g1 : decide ((⟨#[46]⟩ : ByteArray) = ⟨#[]⟩) = false := decide_eq_false hne'
    have g2 : decide ((-1 : Int) < 0) = true := by decide
    rw [decide_eq_false hne, cond_false, strings_Split, strings_genSplit, g0, g1, g2, cond_false, cond_false, cond_true, e0, bnd1_mk, grd_pos (by simp only [i64]; omega), strings_genSplit_j0, hjj, grd_pos (by simp only [i64]; omega), grd_pos (by omega), grd_pos (by simp only [i64]; omega)]
    rw [Int.natCast_zero] at hloop
    rw [hloop, bnd1_mk, bnd1_mk]
    unfold labels
    rw [if_neg e, List.take_zero, List.nil_append]

theorem idx_sub {α : Type} {l : List α} {n : Nat} (h : n ≤ l.length) : idx l ((l.length : Int) - (n : Int)) = l[l.length - n]? := by
  have e : (l.length : Int) - (n : Int) = ((l.length - n : Nat) : Int) := by omega
  rw [e, idx_nat]

def under (a b : ByteArray) : Bool := decide ((labels b).length ≤ (labels a).length) && decide ((labels a).drop ((labels a).length - (labels b).length) = labels b)

theorem slices_Equal_string_l0_eq : ∀ (t : List ByteArray) (pre q : List ByteArray), t.length = q.length → slices_Equal_string_l0 (pre ++ q) t pre.length = some (decide (t = q))
  | [], pre, q, h => by cases q with | nil => rfl | cons a b => simp at h
  | x :: t, pre, q, h => by
    cases q with
    | nil => simp at h
    | cons y q =>
      rw [slices_Equal_string_l0]
      have := slices_Equal_string_l0_eq t (pre ++ [y]) q (by simpa using h)
      simp only [idx_nat]
      simp only [List.length_append, List.length_singleton, List.append_assoc, List.singleton_append] at this
      by_cases c : x = y <;> simp [c, this]

theorem slices_Equal_string_eq {a b : List ByteArray} : slices_Equal_string a b = some (decide (a = b)) := by
  unfold slices_Equal_string
  by_cases c : a.length = b.length
  · have := slices_Equal_string_l0_eq a [] b c
    simpa [c] using this
  · have c' : a ≠ b := fun h => c (by rw [h])
    have c2 : ¬ ((a.length : Int) = (b.length : Int)) := by omega
    simp [c2, c']

theorem i_Under_eq {a b : ByteArray} (ha : a.size ≤ 1048576) (hb : b.size ≤ 1048576) : i_Under a b = some (under a b) := by
  unfold i_Under
  have la := labels_len a
  have lb := labels_len b
  rw [i_Labels_eq ha, i_Labels_eq hb, bnd1_mk, bnd1_mk]
  unfold under
  by_cases c : (labels b).length ≤ (labels a).length
  · have c' : decide (((labels b).length : Int) ≤ ((labels a).length : Int)) = true := by simpa using c
    rw [c', cond_true, grd_pos (by simp only [i64]; omega), grd_pos (by omega), slices_Equal_string_eq, bnd1_mk]
    have e1 : (((labels a).length : Int) - ((labels b).length : Int)).toNat = (labels a).length - (labels b).length := by omega
    rw [e1, List.take_of_length_le (by simp)]
    simp [c]
  · have c' : decide (((labels b).length : Int) ≤ ((labels a).length : Int)) = false := by simp; omega
    rw [c', cond_false]
    simp [c]

theorem slices_IndexFunc_Record_l0_eq {g : Rec → Option Bool} {p : Rec → Bool} : ∀ (l : List Rec) (i : Nat), (∀ r, r ∈ l → g r = some (p r)) → ∃ v, slices_IndexFunc_Record_l0 g l i = some v ∧ decide (0 ≤ v) = l.any p
  | [], i, _ => ⟨-1, rfl, rfl⟩
  | r :: l, i, h => by
    rw [slices_IndexFunc_Record_l0, h r (.head _), bnd1_mk]
    cases c : p r with
    | true => exact ⟨i, rfl, by simp [c]⟩
    | false =>
      obtain ⟨v, h1, h2⟩ := slices_IndexFunc_Record_l0_eq l (i + 1) fun q hq => h q (.tail _ hq)
      exact ⟨v, h1, by simp [c, h2]⟩

theorem slices_ContainsFunc_Record_eq {g : Rec → Option Bool} {p : Rec → Bool} {l : List Rec} (h : ∀ r, r ∈ l → g r = some (p r)) : slices_ContainsFunc_Record l g = some (l.any p) := by
  obtain ⟨v, h1, h2⟩ := slices_IndexFunc_Record_l0_eq l 0 h
  unfold slices_ContainsFunc_Record slices_IndexFunc_Record
  rw [h1, bnd1_mk, h2]

theorem i_Exists_eq {z : MZone} {s : ByteArray} (hz : smL z.l) (hs : s.size ≤ 1048576) : i_Exists z s = some (z.l.any fun r => under r.name s) := by
  unfold i_Exists
  rw [slices_ContainsFunc_Record_eq (p := fun r => under r.name s) fun r hr => by unfold i_Exists_1; rw [i_Under_eq (hz.2 r hr).1 hs]; rfl]
  rfl

def hasS (s : ByteArray) (l : List ByteArray) : Bool := l.any fun x => decide (x = s)

theorem slices_Index_string_l0_eq {s : ByteArray} : ∀ (l : List ByteArray) (i : Nat), ∃ v, slices_Index_string_l0 s l i = some v ∧ decide (0 ≤ v) = hasS s l
  | [], i => ⟨-1, rfl, rfl⟩
  | x :: l, i => by
    rw [slices_Index_string_l0]
    by_cases c : s = x
    · subst c; exact ⟨i, by simp, by simp [hasS]⟩
    · obtain ⟨v, h1, h2⟩ := slices_Index_string_l0_eq (s := s) l (i + 1)
      have c' : ¬ (x = s) := fun h => c h.symm
      exact ⟨v, by simp [c, h1], by rw [h2]; simp [hasS, c']⟩

theorem slices_Contains_string_eq {l : List ByteArray} {s : ByteArray} : slices_Contains_string l s = some (hasS s l) := by
  obtain ⟨v, h1, h2⟩ := slices_Index_string_l0_eq (s := s) l 0
  unfold slices_Contains_string slices_Index_string
  rw [h1, bnd1_mk, h2]

/-- The cuts of a zone, as they are collected. -/
def cutP (apex : ByteArray) (out : List ByteArray) (r : Rec) : Bool := decide (r.ty = 2) && (!decide (r.name = apex) && (under r.name apex && !hasS r.name out))

def cutsL (apex : ByteArray) : List Rec → List ByteArray → List ByteArray
  | [], out => out
  | r :: l, out => bif cutP apex out r then cutsL apex l (out ++ [r.name]) else cutsL apex l out

def cutsOf (z : MZone) : List ByteArray := cutsL z.apex z.l []

theorem cutsL_len (apex : ByteArray) : ∀ (l : List Rec) (out : List ByteArray), (cutsL apex l out).length ≤ out.length + l.length
  | [], out => Nat.le_refl _
  | r :: l, out => by
    unfold cutsL
    have h1 := cutsL_len apex l (out ++ [r.name])
    have h2 := cutsL_len apex l out
    cases cutP apex out r <;> simp at h1 h2 ⊢ <;> omega

theorem cutsL_mem (apex : ByteArray) : ∀ (l : List Rec) (out : List ByteArray) (x : ByteArray), x ∈ cutsL apex l out → x ∈ out ∨ ∃ r, r ∈ l ∧ r.name = x
  | [], out, x, h => .inl h
  | r :: l, out, x, h => by
    unfold cutsL at h
    cases c : cutP apex out r with
    | true =>
      rw [c, cond_true] at h
      rcases cutsL_mem apex l _ x h with h1 | ⟨q, h1, h2⟩
      · rcases List.mem_append.1 h1 with h2 | h2
        · exact .inl h2
        · rw [List.mem_singleton] at h2; exact .inr ⟨r, .head _, h2.symm⟩
      · exact .inr ⟨q, .tail _ h1, h2⟩
    | false =>
      rw [c, cond_false] at h
      rcases cutsL_mem apex l _ x h with h1 | ⟨q, h1, h2⟩
      · exact .inl h1
      · exact .inr ⟨q, .tail _ h1, h2⟩

theorem cutsOf_sm {z : MZone} (h : z.sm) : (cutsOf z).length ≤ 1048576 ∧ ∀ x, x ∈ cutsOf z → x.size ≤ 1048576 := by
  refine ⟨?_, fun x hx => ?_⟩
  · have h1 := cutsL_len z.apex z.l []
    have h2 := h.2.1
    simp only [List.length_nil] at h1
    unfold cutsOf; omega
  · rcases cutsL_mem z.apex z.l [] x hx with h1 | ⟨r, h1, rfl⟩
    · cases h1
    · exact (h.2.2 r h1).1

theorem i_CutsOf_l0_eq {z : MZone} (hz : z.apex.size ≤ 1048576) : ∀ (l : List Rec) (out : List ByteArray) (i : Nat), (∀ r, r ∈ l → r.sm) → out.length + l.length ≤ 1048576 → i_CutsOf_l0 z l out i = some (cutsL z.apex l out)
  | [], out, i, _, _ => rfl
  | r :: l, out, i, h, hl => by
    have hr := (h r (.head _)).1
    simp only [List.length_cons] at hl
    have h1 := i_CutsOf_l0_eq hz l (out ++ [r.name]) (i + 1) (fun q hq => h q (.tail _ hq)) (by simp; omega)
    have h2 := i_CutsOf_l0_eq hz l out (i + 1) (fun q hq => h q (.tail _ hq)) (by omega)
    rw [i_CutsOf_l0, cutsL, cutP]
    by_cases c1 : r.ty = 2 <;> by_cases c2 : r.name = z.apex <;> cases c3 : under r.name z.apex <;> cases c4 : hasS r.name out <;>
      simp [i_CutsOf_j1, c1, c2, h2, i_Under_eq hr hz, c3, slices_Contains_string_eq, c4] <;> first | done | (rw [grd_pos (by omega)]; exact h1) | simp_all [i_Under_eq hr hz, slices_Contains_string_eq]

theorem i_CutsOf_eq {z : MZone} (h : z.sm) : i_CutsOf z = some (cutsOf z) := i_CutsOf_l0_eq h.1 _ _ _ h.2.2 (by simpa using h.2.1)

def cutOf (z : MZone) (s : ByteArray) : ByteArray × Bool := match (cutsOf z).find? (under s) with | some c => (c, true) | none => (⟨#[]⟩, false)

theorem i_CutOf_l0_eq {s : ByteArray} (hs : s.size ≤ 1048576) : ∀ (l : List ByteArray) (i : Nat), (∀ x, x ∈ l → x.size ≤ 1048576) → i_CutOf_l0 s l i = some (match l.find? (under s) with | some c => (c, true) | none => (⟨#[]⟩, false))
  | [], i, _ => rfl
  | x :: l, i, h => by
    rw [i_CutOf_l0, i_Under_eq hs (h x (.head _)), bnd1_mk, i_CutOf_l0_eq hs l (i + 1) fun y hy => h y (.tail _ hy)]
    cases c : under s x <;> simp [c]

theorem i_CutOf_eq {z : MZone} {s : ByteArray} (h : z.sm) (hs : s.size ≤ 1048576) : i_CutOf z s = some (cutOf z s) := by
  unfold i_CutOf; rw [i_CutsOf_eq h, bnd1_mk, i_CutOf_l0_eq hs _ _ (cutsOf_sm h).2]; rfl

def downP (m : MMsg) (apex : ByteArray) (r : Rec) : Bool := decide (r.ty = 2) && (!decide (r.name = apex) && (under r.name apex && under m.q.name r.name))

def downIn (m : MMsg) (apex : ByteArray) : ByteArray × Bool := match m.au.find? (downP m apex) with | some r => (r.name, true) | none => (⟨#[]⟩, false)

theorem i_DownIn_l0_eq {m : MMsg} {s : ByteArray} (hs : s.size ≤ 1048576) (hm : m.q.sm) : ∀ (l : List Rec) (i : Nat), (∀ r, r ∈ l → r.sm) → i_DownIn_l0 m s l i = some (match l.find? (downP m s) with | some r => (r.name, true) | none => (⟨#[]⟩, false))
  | [], i, _ => rfl
  | r :: l, i, h => by
    have hr := (h r (.head _)).1
    rw [i_DownIn_l0, i_Under_eq hr hs, bnd1_mk, i_Under_eq hm hr, bnd1_mk, List.find?_cons, downP]
    have h2 := i_DownIn_l0_eq hs hm l (i + 1) fun y hy => h y (.tail _ hy)
    by_cases c1 : r.ty = 2 <;> by_cases c2 : r.name = s <;> cases c3 : under r.name s <;> cases c4 : under m.q.name r.name <;> simp [i_DownIn_j1, c1, c2, c3, c4, h2] <;> simp_all

theorem i_DownIn_eq {m : MMsg} {s : ByteArray} (h : m.sm) (hs : s.size ≤ 1048576) : i_DownIn m s = some (downIn m s) := i_DownIn_l0_eq hs h.1 _ _ h.2.2.1.2

theorem i_SetIn_eq {m : MMsg} (h : m.sm) : i_SetIn m = some (setOf m.an m.q.name m.q.ty) := by unfold i_SetIn; rw [i_SetOf_eq h.2.1]; rfl

def serversIn (m : MMsg) (s : ByteArray) : List Rec := match m.au.find? (downP m s) with | some r => setOf m.au r.name 2 | none => []

theorem i_ServersIn_eq {m : MMsg} {s : ByteArray} (h : m.sm) (hs : s.size ≤ 1048576) : i_ServersIn m s = some (serversIn m s) := by
  unfold i_ServersIn serversIn
  rw [i_DownIn_eq h hs]
  unfold downIn
  cases m.au.find? (downP m s) with
  | none => rfl
  | some r => simp [i_SetOf_eq h.2.2.1]

def hostP (out : List ByteArray) (r : Rec) : Bool := decide (r.ty = 2) && !hasS r.host out

def hostsL : List Rec → List ByteArray → List ByteArray
  | [], out => out
  | r :: l, out => bif hostP out r then hostsL l (out ++ [r.host]) else hostsL l out

theorem hostsL_len : ∀ (l : List Rec) (out : List ByteArray), (hostsL l out).length ≤ out.length + l.length
  | [], out => Nat.le_refl _
  | r :: l, out => by
    unfold hostsL
    have h1 := hostsL_len l (out ++ [r.host])
    have h2 := hostsL_len l out
    cases hostP out r <;> simp at h1 h2 ⊢ <;> omega

theorem hostsL_mem : ∀ (l : List Rec) (out : List ByteArray) (x : ByteArray), x ∈ hostsL l out → x ∈ out ∨ ∃ r, r ∈ l ∧ r.host = x
  | [], out, x, h => .inl h
  | r :: l, out, x, h => by
    unfold hostsL at h
    cases c : hostP out r with
    | true =>
      rw [c, cond_true] at h
      rcases hostsL_mem l _ x h with h1 | ⟨q, h1, h2⟩
      · rcases List.mem_append.1 h1 with h2 | h2
        · exact .inl h2
        · rw [List.mem_singleton] at h2; exact .inr ⟨r, .head _, h2.symm⟩
      · exact .inr ⟨q, .tail _ h1, h2⟩
    | false =>
      rw [c, cond_false] at h
      rcases hostsL_mem l _ x h with h1 | ⟨q, h1, h2⟩
      · exact .inl h1
      · exact .inr ⟨q, .tail _ h1, h2⟩

theorem hostsL_sm {l : List Rec} (h : smL l) : (hostsL l []).length ≤ 1048576 ∧ ∀ x, x ∈ hostsL l [] → x.size ≤ 1048576 := by
  refine ⟨?_, fun x hx => ?_⟩
  · have h1 := hostsL_len l []
    have h2 := h.1
    simp only [List.length_nil] at h1
    omega
  · rcases hostsL_mem l [] x hx with h1 | ⟨r, h1, rfl⟩
    · cases h1
    · exact (h.2 r h1).2.1

theorem i_Hosts_l0_eq : ∀ (l : List Rec) (out : List ByteArray) (i : Nat), out.length + l.length ≤ 1048576 → i_Hosts_l0 l out i = some (hostsL l out)
  | [], out, i, _ => rfl
  | r :: l, out, i, hl => by
    simp only [List.length_cons] at hl
    have h1 := i_Hosts_l0_eq l (out ++ [r.host]) (i + 1) (by simp; omega)
    have h2 := i_Hosts_l0_eq l out (i + 1) (by omega)
    rw [i_Hosts_l0, hostsL, hostP, slices_Contains_string_eq, bnd1_mk]
    by_cases c1 : r.ty = 2 <;> cases c4 : hasS r.host out <;> simp [i_Hosts_j1, c1, h2] <;> (rw [grd_pos (by omega)]; exact h1)

theorem i_Hosts_eq {l : List Rec} (h : smL l) : i_Hosts l = some (hostsL l []) := i_Hosts_l0_eq _ _ _ (by simpa using h.1)

theorem slices_Clone_Record_eq {l : List Rec} (h : l.length ≤ 1099511627776) : slices_Clone_Record l = some l := by
  unfold slices_Clone_Record
  rw [List.nil_append, grd_pos h]

def glueL (zl : List Rec) (l : List ByteArray) : List Rec := l.flatMap fun h => setOf zl h 1

theorem i_Glue_l0_eq {z : MZone} (hz : smL z.l) : ∀ (l : List ByteArray) (out : List Rec) (i : Nat), out.length + l.length * 1048576 ≤ 1099511627776 → i_Glue_l0 z l out i = some (out ++ glueL z.l l)
  | [], out, i, _ => by simp [i_Glue_l0, glueL]
  | x :: l, out, i, hl => by
    rw [List.length_cons, Nat.add_mul, Nat.one_mul] at hl
    have h2 := setOf_len z.l x 1
    have h3 := hz.1
    have hq : (out ++ setOf z.l x 1).length + l.length * 1048576 ≤ 1099511627776 := by rw [List.length_append]; generalize l.length * 1048576 = Q at hl ⊢; omega
    have e : glueL z.l (x :: l) = setOf z.l x 1 ++ glueL z.l l := by simp [glueL]
    rw [i_Glue_l0, i_SetOf_eq hz, bnd1_mk, grd_pos (Nat.le_trans (Nat.le_add_right _ _) hq), i_Glue_l0_eq hz l _ (i + 1) hq, e, List.append_assoc]

theorem i_Glue_eq {z : MZone} {l : List ByteArray} (hz : smL z.l) (hl : l.length ≤ 1048576) : i_Glue z l = some (glueL z.l l) := i_Glue_l0_eq hz l [] 0 (by rw [List.length_nil]; have := Nat.mul_le_mul_right 1048576 hl; omega)

def kindIn (z : MZone) (q : Quest) : Int :=
  bif !under q.name z.apex then 0 else (bif (cutOf z q.name).2 then 1 else (bif !decide (q.ty = 5) && decide (0 < ((setOf z.l q.name 5).length : Int)) then 2 else (bif decide (0 < ((setOf z.l q.name q.ty).length : Int)) then 3 else (bif z.l.any (fun r => under r.name q.name) then 4 else 5))))

theorem i_KindIn_eq {z : MZone} {q : Quest} (h : z.sm) (hq : q.sm) : i_KindIn z q = some (kindIn z q) := by
  unfold i_KindIn kindIn
  have h2 := i_CutOf_eq h hq
  generalize cutOf z q.name = x at h2
  obtain ⟨x, y⟩ := x
  rw [h2, bnd2_mk, i_Under_eq hq h.1, bnd1_mk, i_SetOf_eq h.2, bnd1_mk]
  unfold i_KindIn_j0
  rw [i_SetOf_eq h.2, bnd1_mk, i_Exists_eq h.2 hq, bnd1_mk]
  cases under q.name z.apex <;> cases y <;> cases decide (q.ty = 5) <;> cases decide (0 < ((setOf z.l q.name 5).length : Int)) <;> cases decide (0 < ((setOf z.l q.name q.ty).length : Int)) <;> cases z.l.any (fun r => under r.name q.name) <;> rfl

def answerIn (z : MZone) (q : Quest) : List Rec := bif decide (kindIn z q = 2) then setOf z.l q.name 5 else (bif decide (kindIn z q = 3) then setOf z.l q.name q.ty else [])

theorem i_AnswerIn_eq {z : MZone} {q : Quest} (h : z.sm) (hq : q.sm) : i_AnswerIn z q = some (answerIn z q) := by
  unfold i_AnswerIn answerIn
  rw [i_KindIn_eq h hq, bnd1_mk, i_SetOf_eq h.2, bnd1_mk, i_SetOf_eq h.2, bnd1_mk]
  cases decide (kindIn z q = 2) <;> cases decide (kindIn z q = 3) <;> rfl

theorem smL_nil : smL [] := ⟨Nat.zero_le _, fun r hr => by cases hr⟩

theorem answerIn_sm {z : MZone} (h : z.sm) (q : Quest) : smL (answerIn z q) := by
  unfold answerIn
  cases decide (kindIn z q = 2)
  · cases decide (kindIn z q = 3)
    · exact smL_nil
    · exact setOf_sm h.2 _ _
  · exact setOf_sm h.2 _ _

def moreIn (z : MZone) (q : Quest) : List Rec := bif decide (kindIn z q = 1) then setOf z.l (cutOf z q.name).1 2 else (bif decide (kindIn z q = 4) || decide (kindIn z q = 5) then [first (fun r => decide (r.ty = 6)) z.l] else [])

theorem i_MoreIn_eq {z : MZone} {q : Quest} (h : z.sm) (hq : q.sm) : i_MoreIn z q = some (moreIn z q) := by
  unfold i_MoreIn moreIn i_MoreIn_j0
  have h2 := i_CutOf_eq h hq
  rw [i_KindIn_eq h hq, bnd1_mk]
  generalize kindIn z q = k
  generalize cutOf z q.name = x at h2
  obtain ⟨x, y⟩ := x
  rw [h2, bnd2_mk, i_SetOf_eq h.2, bnd1_mk, i_StartOf_eq, bnd1_mk]
  cases decide (k = 1) <;> cases decide (k = 4) <;> cases decide (k = 5) <;> rfl

theorem zrec_sm : zrec.sm := ⟨Nat.zero_le _, Nat.zero_le _, Nat.zero_le _⟩

theorem first_sm {p : Rec → Bool} {l : List Rec} (h : smL l) : (first p l).sm := by
  unfold first
  cases c : l.find? p with
  | none => exact zrec_sm
  | some r => exact h.2 r (List.mem_of_find?_eq_some c)

theorem moreIn_sm {z : MZone} (h : z.sm) (q : Quest) : smL (moreIn z q) := by
  unfold moreIn
  cases decide (kindIn z q = 1)
  · cases decide (kindIn z q = 4) || decide (kindIn z q = 5)
    · exact smL_nil
    · exact ⟨by simp, fun r hr => by rw [cond_false, cond_true, List.mem_singleton] at hr; rw [hr]; exact first_sm h.2⟩
  · exact setOf_sm h.2 _ _

def helpIn (z : MZone) (q : Quest) : List Rec := bif !decide (kindIn z q = 1) then [] else glueL z.l (hostsL (moreIn z q) [])

theorem i_HelpIn_eq {z : MZone} {q : Quest} (h : z.sm) (hq : q.sm) : i_HelpIn z q = some (helpIn z q) := by
  unfold i_HelpIn helpIn
  have hm := moreIn_sm h q
  rw [i_KindIn_eq h hq, bnd1_mk, i_MoreIn_eq h hq, bnd1_mk, i_Hosts_eq hm, bnd1_mk, i_Glue_eq h.2 (hostsL_sm hm).1, bnd1_mk]
  cases decide (kindIn z q = 1) <;> rfl

theorem glueL_mem {zl : List Rec} {l : List ByteArray} {r : Rec} (h : r ∈ glueL zl l) : r ∈ zl := by
  unfold glueL at h
  obtain ⟨x, -, hx⟩ := List.mem_flatMap.1 h
  exact (List.mem_filter.1 hx).1

theorem take8 {l : List Rec} : (l.drop ((0 : Nat) : Int).toNat).take ((if 8 < (l.length : Int) then 8 else (l.length : Int)).toNat - ((0 : Nat) : Int).toNat) = l.take 8 := by
  have e : ((0 : Nat) : Int).toNat = 0 := rfl
  rw [e, List.drop_zero, Nat.sub_zero]
  by_cases c : 8 < (l.length : Int)
  · rw [if_pos c]; rfl
  · rw [if_neg c, Int.toNat_natCast, List.take_length, List.take_of_length_le (by omega)]

theorem i_some_eq {l : List Rec} : i_some l = some (l.take 8) := by
  unfold i_some
  rw [take8, grd_pos (by split <;> omega)]

def reply (m : MMsg) (k : Int) (a : Bool) (x y z : List Rec) : MMsg := MMsg.mk m.id true a false m.want false k m.q x y z

theorem i_ReplyTo_eq {m : MMsg} {k : Int} {a : Bool} {x y z : List Rec} (hx : x.length ≤ 1099511627776) (hy : y.length ≤ 1099511627776) (hz : z.length ≤ 1099511627776) : i_ReplyTo m k a x y z = some (reply m k a x y z) := by
  unfold i_ReplyTo i_copyMsg; simp only [slices_Clone_Record_eq hx, slices_Clone_Record_eq hy, slices_Clone_Record_eq hz, bnd1_mk]; rfl

def serve (z : MZone) (m : MMsg) : MMsg :=
  reply m (bif decide (kindIn z m.q = 0) then 5 else (bif decide (kindIn z m.q = 5) then 3 else 0)) (!decide (kindIn z m.q = 0) && !decide (kindIn z m.q = 1)) ((answerIn z m.q).take 8) ((moreIn z m.q).take 8) ((helpIn z m.q).take 8)

theorem take8_len {l : List Rec} : (l.take 8).length ≤ 8 := by rw [List.length_take]; omega

theorem i_Serve_eq {z : MZone} {m : MMsg} (h : z.sm) (hq : m.q.sm) : i_Serve z m = some (serve z m) := by
  have h8 : ∀ l : List Rec, (l.take 8).length ≤ 1099511627776 := fun l => Nat.le_trans take8_len (by omega)
  unfold i_Serve i_Serve_j0 serve
  rw [i_KindIn_eq h hq, bnd1_mk]
  simp only [i_AnswerIn_eq h hq, i_MoreIn_eq h hq, i_HelpIn_eq h hq, bnd1_mk, i_some_eq, i_ReplyTo_eq (h8 _) (h8 _) (h8 _)]
  generalize kindIn z m.q = k
  cases decide (k = 0) <;> cases decide (k = 1) <;> cases decide (k = 5) <;> rfl

theorem fuel_lt {k : Nat} (h : k ≤ 1048576) : k < fuel0 := by unfold fuel0; omega

def Cur.inv (c : Cur) : Prop := 0 ≤ c.i ∧ c.b.length ≤ 1048576

theorem iand_255 (x : Int) : 0 ≤ iand .i64 x 255 ∧ iand .i64 x 255 ≤ 255 := by
  unfold iand
  have h : (BitVec.ofInt (IntKind.i64).bits x &&& BitVec.ofInt (IntKind.i64).bits 255).toNat ≤ 255 := by
    rw [BitVec.toNat_and]; exact Nat.le_trans Nat.and_le_right (by decide)
  generalize (BitVec.ofInt (IntKind.i64).bits x &&& BitVec.ofInt (IntKind.i64).bits 255).toNat = n at h
  rw [wrap_id (by omega)]; omega

theorem idx_ok {α : Type} {l : List α} {i : Int} (h0 : 0 ≤ i) (h1 : i < l.length) : ∃ x, idx l i = some x ∧ x ∈ l := by
  have h2 : i.toNat < l.length := by omega
  exact ⟨l[i.toNat], by unfold idx; rw [if_pos h0, List.getElem?_eq_getElem h2], List.getElem_mem h2⟩

theorem s_l1Byte_p {c : Cur} (h : c.inv) : ∃ x d, s_l1Byte c = some (x, d) ∧ d.inv ∧ 0 ≤ x ∧ x ≤ 255 := by
  obtain ⟨h1, h2⟩ := h
  unfold s_l1Byte
  by_cases p : c.i < (c.b.length : Int)
  · obtain ⟨y, hy, -⟩ := idx_ok h1 p
    rw [decide_eq_true p, cond_true, hy, bnd1_mk]
    exact ⟨_, _, rfl, ⟨by show 0 ≤ IntKind.i64.wrap (c.i + 1); rw [wrap_id (by omega)]; omega, h2⟩, (iand_255 _).1, (iand_255 _).2⟩
  · rw [decide_eq_false p, cond_false]
    exact ⟨_, _, rfl, ⟨h1, h2⟩, (iand_255 _).1, (iand_255 _).2⟩

theorem s_l1Below_p {c : Cur} {n : Int} (h : c.inv) (h1 : 0 < n) (h2 : n ≤ 256) : ∃ x d, s_l1Below c n = some (x, d) ∧ d.inv ∧ 0 ≤ x ∧ x < n := by
  obtain ⟨x, d, e, hd, hx, hy⟩ := s_l1Byte_p h
  have c1 : ¬ (n ≤ 0) := by omega
  unfold s_l1Below
  rw [decide_eq_false c1, cond_false, decide_eq_true h2, cond_true, e, bnd2_mk, grd_pos (by omega)]
  exact ⟨_, _, rfl, hd, Int.tmod_nonneg n hx, Int.tmod_lt_of_pos x h1⟩

theorem s_l1Once_p {c : Cur} {n : Int} (h : c.inv) (h1 : 0 < n) (h2 : n ≤ 256) : ∃ x d, s_l1Once c n = some (x, d) ∧ d.inv := by
  obtain ⟨x, d, e, hd, -, -⟩ := s_l1Below_p h h1 h2
  unfold s_l1Once
  rw [e, bnd2_mk]
  exact ⟨_, _, rfl, hd⟩

theorem s_l1Str_p {c : Cur} {l : List ByteArray} (h : c.inv) (h1 : 0 < l.length) (h2 : l.length ≤ 256) : ∃ x d, s_l1Str c l = some (x, d) ∧ d.inv ∧ x ∈ l := by
  obtain ⟨x, d, e, hd, hx, hy⟩ := s_l1Below_p (n := (l.length : Int)) h (by omega) (by omega)
  obtain ⟨y, e2, hm⟩ := idx_ok hx hy
  unfold s_l1Str
  rw [e, bnd2_mk, e2, bnd1_mk]
  exact ⟨_, _, rfl, hd, hm⟩

theorem s_l1Int_p {c : Cur} {l : List Int} (h : c.inv) (h1 : 0 < l.length) (h2 : l.length ≤ 256) : ∃ x d, s_l1Int c l = some (x, d) ∧ d.inv ∧ x ∈ l := by
  obtain ⟨x, d, e, hd, hx, hy⟩ := s_l1Below_p (n := (l.length : Int)) h (by omega) (by omega)
  obtain ⟨y, e2, hm⟩ := idx_ok hx hy
  unfold s_l1Int
  rw [e, bnd2_mk, e2, bnd1_mk]
  exact ⟨_, _, rfl, hd, hm⟩

theorem small_of {l : List ByteArray} {x : ByteArray} (h : (l.all fun y => Nat.ble y.size 1048576) = true) (hx : x ∈ l) : x.size ≤ 1048576 := Nat.le_of_ble_eq_true (List.all_eq_true.1 h x hx)

theorem s_l1New_l1_p {b : List Int} (hb : b.length ≤ 1048576) : ∀ (k fl i : Nat) (h : Int), b.length - i = k → i ≤ b.length → k < fl → ∃ c, s_l1New_l1 b fl h (i : Int) = some c ∧ c.inv
  | 0, fl, i, h, hk, hi, hf => by
    obtain ⟨fl, rfl⟩ : ∃ q, fl = q + 1 := ⟨fl - 1, by omega⟩
    have c1 : ¬ ((i : Int) < (b.length : Int)) := by omega
    rw [s_l1New_l1, decide_eq_false c1, cond_false]
    exact ⟨_, rfl, Int.le_refl 0, hb⟩
  | k + 1, fl, i, h, hk, hi, hf => by
    obtain ⟨fl, rfl⟩ : ∃ q, fl = q + 1 := ⟨fl - 1, by omega⟩
    have c1 : (i : Int) < (b.length : Int) := by omega
    rw [s_l1New_l1, decide_eq_true c1, cond_true]
    unfold s_l1New_j2
    cases decide ((i : Int) < 4000) with
    | false => exact ⟨_, rfl, Int.le_refl 0, hb⟩
    | true =>
      obtain ⟨x, hx, -⟩ := idx_ok (l := b) (i := (i : Int)) (by omega) c1
      have e : IntKind.i64.wrap ((i : Int) + 1) = ((i + 1 : Nat) : Int) := by rw [wrap_id (by omega)]; omega
      rw [cond_true, hx, bnd1_mk, e]
      exact s_l1New_l1_p hb k fl (i + 1) _ (by omega) (by omega) (by omega)

theorem s_l1New_p {b : List Int} (hb : b.length ≤ 1048576) : ∃ c, s_l1New b = some c ∧ c.inv := s_l1New_l1_p hb b.length fuel0 0 _ (by omega) (by omega) (fuel_lt hb)

def MPost.sm (p : MPost) : Prop := p.apex.size ≤ 1048576

def MForest.sm (f : MForest) : Prop := (f.zones.length ≤ 1048576 ∧ ∀ z, z ∈ f.zones → z.sm) ∧ (f.posts.length ≤ 1048576 ∧ ∀ p, p ∈ f.posts → p.sm)

theorem bL_irr : ∀ x : List UInt8, Op.bytesLess x x = false
  | [] => rfl
  | a :: x => by simp [Op.bytesLess, bL_irr x, UInt8.lt_irrefl]

theorem bL_trans : ∀ x y z : List UInt8, Op.bytesLess x y = true → Op.bytesLess y z = true → Op.bytesLess x z = true
  | [], [], _, h, _ => by simp [Op.bytesLess] at h
  | [], _ :: _, [], _, h => by simp [Op.bytesLess] at h
  | [], _ :: _, _ :: _, _, _ => rfl
  | _ :: _, [], _, h, _ => by simp [Op.bytesLess] at h
  | _ :: _, _ :: _, [], _, h => by simp [Op.bytesLess] at h
  | a :: x, b :: y, c :: z, h, k => by
    simp only [Op.bytesLess, Bool.or_eq_true, decide_eq_true_eq, Bool.and_eq_true, beq_iff_eq] at h k ⊢
    rcases h with h | ⟨h, h'⟩ <;> rcases k with k | ⟨k, k'⟩
    · exact .inl (UInt8.lt_trans h k)
    · exact .inl (k ▸ h)
    · exact .inl (h ▸ k)
    · exact .inr ⟨h.trans k, bL_trans x y z h' k'⟩

def bl (a b : ByteArray) : Bool := Op.bytesLess (bts a) (bts b)

theorem bl_eq {a b : ByteArray} : Op.bytesLess a.toList b.toList = bl a b := by unfold bl bts; rw [ByteArray.toList_eq, ByteArray.toList_eq]

theorem bl_irr (a : ByteArray) : bl a a = false := bL_irr _

theorem bl_trans (a b c : ByteArray) (h : bl a b = true) (k : bl b c = true) : bl a c = true := bL_trans _ _ _ h k

def lexN : List ByteArray → List ByteArray → Bool
  | _, [] => false
  | [], _ :: _ => true
  | x :: xs, y :: ys => if x = y then lexN xs ys else bl x y

theorem lexN_irr : ∀ x : List ByteArray, lexN x x = false
  | [] => rfl
  | a :: x => by simp [lexN, lexN_irr x]

theorem lexN_trans : ∀ x y z : List ByteArray, lexN x y = true → lexN y z = true → lexN x z = true
  | [], [], _, h, _ => by simp [lexN] at h
  | [], _ :: _, [], _, h => by simp [lexN] at h
  | [], _ :: _, _ :: _, _, _ => rfl
  | _ :: _, [], _, h, _ => by simp [lexN] at h
  | _ :: _, _ :: _, [], _, h => by simp [lexN] at h
  | a :: x, b :: y, c :: z, h, k => by
    unfold lexN at h k ⊢
    by_cases e1 : a = b
    · subst e1
      rw [if_pos rfl] at h
      by_cases e2 : a = c
      · rw [if_pos e2] at k ⊢; exact lexN_trans x y z h k
      · rw [if_neg e2] at k ⊢; exact k
    · rw [if_neg e1] at h
      by_cases e2 : b = c
      · subst e2; rw [if_neg e1]; exact h
      · rw [if_neg e2] at k
        have h3 := bl_trans a b c h k
        by_cases e3 : a = c
        · subst e3; rw [bl_irr] at h3; cases h3
        · rw [if_neg e3]; exact h3

def lessN (a b : ByteArray) : Bool := lexN (labels a).reverse (labels b).reverse

theorem lessN_irr (a : ByteArray) : lessN a a = false := lexN_irr _

theorem lessN_trans (a b c : ByteArray) (h : lessN a b = true) (k : lessN b c = true) : lessN a c = true := lexN_trans _ _ _ h k

theorem s_LessName_l1_eq (x y : List ByteArray) (hx : x.length ≤ 2097152) (hy : y.length ≤ 2097152) (fl : Nat) : ∀ (k i : Nat), x.length - i = k → i ≤ x.length → i ≤ y.length → k + 1 < fl → s_LessName_l1 x y fl ((i : Int) + 1) = some (lexN (x.reverse.drop i) (y.reverse.drop i)) := by
  induction fl with
  | zero => intro k i _ _ _ h; omega
  | succ fl IH =>
    intro k i hk hi hi' hfl
    rw [s_LessName_l1]
    unfold s_LessName_j2 s_LessName_j0
    by_cases c1 : i = x.length
    · have e1 : x.reverse.drop i = [] := List.drop_eq_nil_of_le (by simp; omega)
      have h1 : ¬ ((i : Int) + 1 ≤ (x.length : Int)) := by omega
      simp only [h1, decide_false, cond_false, e1]
      by_cases c2 : i = y.length
      · have e2 : y.reverse.drop i = [] := List.drop_eq_nil_of_le (by simp; omega)
        have h2 : ¬ ((x.length : Int) < (y.length : Int)) := by omega
        simp [e2, lexN, h2]
      · have hlt : i < y.reverse.length := by simp; omega
        rw [List.drop_eq_getElem_cons hlt]
        have h2 : ((x.length : Int) < (y.length : Int)) := by omega
        simp [lexN, h2]
    · have h1 : ((i : Int) + 1 ≤ (x.length : Int)) := by omega
      have hltx : i < x.reverse.length := by simp; omega
      simp only [h1, decide_true, cond_true]
      by_cases c2 : i = y.length
      · have h2 : ¬ ((i : Int) + 1 ≤ (y.length : Int)) := by omega
        have e2 : y.reverse.drop i = [] := List.drop_eq_nil_of_le (by simp; omega)
        have h3 : ¬ ((x.length : Int) < (y.length : Int)) := by omega
        have e3 : ∀ l : List ByteArray, lexN l [] = false := fun l => by cases l <;> rfl
        simp [h2, e2, h3, e3]
      · have h2 : ((i : Int) + 1 ≤ (y.length : Int)) := by omega
        have hlty : i < y.reverse.length := by simp; omega
        have ix : idx x ((x.length : Int) - ((i : Int) + 1)) = some x.reverse[i] := by
          rw [show (x.length : Int) - ((i : Int) + 1) = (x.length : Int) - ((i + 1 : Nat) : Int) by omega, idx_sub (by omega), List.getElem?_eq_getElem (by omega), List.getElem_reverse]
          congr 1; congr 1; omega
        have iy : idx y ((y.length : Int) - ((i : Int) + 1)) = some y.reverse[i] := by
          rw [show (y.length : Int) - ((i : Int) + 1) = (y.length : Int) - ((i + 1 : Nat) : Int) by omega, idx_sub (by omega), List.getElem?_eq_getElem (by omega), List.getElem_reverse]
          congr 1; congr 1; omega
        simp only [h2, decide_true, cond_true, ix, iy, bnd1_mk]
        rw [grd_pos (by simp only [i64]; omega), grd_pos (by simp only [i64]; omega), List.drop_eq_getElem_cons hltx, List.drop_eq_getElem_cons hlty, lexN, bl_eq]
        by_cases ce : x.reverse[i] = y.reverse[i]
        · have ih := IH (k - 1) (i + 1) (by omega) (by omega) (by omega) (by omega)
          have e9 : (i : Int) + 1 + 1 = ((i + 1 : Nat) : Int) + 1 := by omega
          have g9 : i64 ((i : Int) + 1 + 1) := by constructor <;> omega
          simp only [ce, decide_true, Bool.not_true, cond_false, if_true, grd_pos g9]
          rw [e9]; exact ih
        · simp only [ce, decide_false, Bool.not_false, cond_true, if_false]

theorem s_LessName_eq {a b : ByteArray} (ha : a.size ≤ 1048576) (hb : b.size ≤ 1048576) : s_LessName a b = some (lessN a b) := by
  have h1 := labels_len a
  have h2 := labels_len b
  unfold s_LessName
  rw [s_Labels_eq ha, bnd1_mk, s_Labels_eq hb, bnd1_mk]
  have := s_LessName_l1_eq (labels a) (labels b) (by omega) (by omega) fuel0 _ 0 rfl (Nat.zero_le _) (Nat.zero_le _) (by unfold fuel0; omega)
  unfold lessN
  simpa using this

def lx {α : Type} [DecidableEq α] (lt : α → α → Bool) (x y : α) (r : Bool) : Bool := if x = y then r else lt x y

def lti (a b : Int) : Bool := decide (a < b)

def lessR (a b : Rec) : Bool := lx lessN a.name b.name (lx lti a.ty b.ty (lx lti a.n b.n (lx lessN a.host b.host (lx bl a.text b.text (lti a.ttl b.ttl)))))

theorem s_LessRecord_eq {a b : Rec} (ha : a.sm) (hb : b.sm) : s_LessRecord a b = some (lessR a b) := by
  unfold s_LessRecord lessR lx lti
  rw [s_LessName_eq ha.1 hb.1, s_LessName_eq ha.2.1 hb.2.1, bl_eq]
  by_cases c1 : a.name = b.name <;> by_cases c2 : a.ty = b.ty <;> by_cases c3 : a.n = b.n <;> by_cases c4 : a.host = b.host <;> by_cases c5 : a.text = b.text <;> simp [c1, c2, c3, c4, c5]

def lt (a b : Rec) : Prop := lessR a b = true

theorem name_or {a b : Rec} (h : lt a b) : a.name = b.name ∨ lessN a.name b.name = true := by
  unfold lt lessR lx at h
  by_cases c : a.name = b.name
  · exact .inl c
  · rw [if_neg c] at h; exact .inr h

theorem between {a b c : Rec} (h : lt a b) (k : lt b c) (e : a.name = c.name) (e' : a.ty = c.ty) : b.name = a.name ∧ b.ty = a.ty := by
  have h1 : a.name = b.name := by
    rcases name_or h with h1 | h1
    · exact h1
    · rcases name_or k with h2 | h2
      · rw [e, h2, lessN_irr] at h1; cases h1
      · have := lessN_trans _ _ _ h1 h2
        rw [e, lessN_irr] at this; cases this
  refine ⟨h1.symm, ?_⟩
  unfold lt lessR lx at h k
  rw [if_pos h1] at h
  rw [if_pos (h1.symm.trans e)] at k
  by_cases c1 : a.ty = b.ty
  · exact c1.symm
  · rw [if_neg c1] at h
    by_cases c2 : b.ty = c.ty
    · exact c2.trans e'.symm
    · rw [if_neg c2] at k
      simp only [lti, decide_eq_true_eq] at h k; omega

theorem w_big_eq {p : List Int} : w_big p = some (decide (1048576 < (p.length : Int))) := rfl

theorem s_SortRecords_j1_eq {v : List Rec} {i : Nat} {e : Rec} {K : List Rec → Nat → Option (List Rec)} {j : Nat} (hj : j ≤ v.length) (hv : v.length ≤ 1000) : s_SortRecords_j1 v i e K (j : Int) = K ((v.take j ++ [e]) ++ v.drop j) (i + 1) := by
  have e1 : (v.drop (0 + ((0 : Nat) : Int).toNat)).take ((j : Int).toNat - ((0 : Nat) : Int).toNat) = v.take j := by simp
  have e2 : (v.drop (0 + (j : Int).toNat)).take ((v.length : Int).toNat - (j : Int).toNat) = v.drop j := by
    rw [Int.toNat_natCast, Int.toNat_natCast, Nat.zero_add]; exact List.take_of_length_le (by simp)
  have l1 : (v.take j).length = j := by rw [List.length_take]; omega
  have l2 : (v.drop j).length = v.length - j := List.length_drop
  unfold s_SortRecords_j1
  rw [e1, e2, List.nil_append, grd_pos (by omega), grd_pos (by omega), grd_pos (by simp only [List.length_append, List.length_singleton]; omega), grd_pos (by omega), grd_pos (by simp only [List.length_append, List.length_singleton]; omega)]

theorem s_SortRecords_l2_p {v : List Rec} {i : Nat} {e : Rec} {K : List Rec → Nat → Option (List Rec)} (hv : v.length ≤ 1000) (hs : ∀ r, r ∈ v → r.sm) (he : e.sm) : ∀ (k fl : Nat), k ≤ v.length → k < fl → ∃ j, j ≤ v.length ∧ s_SortRecords_l2 v i e K fl (k : Int) = K ((v.take j ++ [e]) ++ v.drop j) (i + 1)
  | 0, fl, hk, hf => by
    obtain ⟨fl, rfl⟩ : ∃ q, fl = q + 1 := ⟨fl - 1, by omega⟩
    refine ⟨0, by omega, ?_⟩
    rw [s_SortRecords_l2]
    unfold s_SortRecords_j3
    exact s_SortRecords_j1_eq (j := 0) (by omega) hv
  | k + 1, fl, hk, hf => by
    obtain ⟨fl, rfl⟩ : ∃ q, fl = q + 1 := ⟨fl - 1, by omega⟩
    have c1 : (0 : Int) < ((k + 1 : Nat) : Int) := by omega
    have e9 : ((k + 1 : Nat) : Int) - 1 = (k : Int) := by omega
    obtain ⟨x, e1, hx⟩ := idx_ok (l := v) (i := (k : Int)) (by omega) (by omega)
    rw [s_SortRecords_l2, decide_eq_true c1, cond_true, e9, grd_pos (by simp only [i64]; omega), e1, bnd1_mk, s_LessRecord_eq he (hs x hx), bnd1_mk]
    unfold s_SortRecords_j3
    cases lessR e x with
    | true =>
      obtain ⟨j, h1, h2⟩ := s_SortRecords_l2_p (i := i) (K := K) hv hs he k fl (by omega) (by omega)
      refine ⟨j, h1, ?_⟩
      rw [cond_true, e9, grd_pos (by simp only [i64]; omega)]
      exact h2
    | false => exact ⟨k + 1, hk, s_SortRecords_j1_eq hk hv⟩

theorem s_SortRecords_l0_p : ∀ (l v : List Rec) (i : Nat), (∀ r, r ∈ v → r.sm) → (∀ r, r ∈ l → r.sm) → v.length + l.length ≤ 1000 → ∃ m, s_SortRecords_l0 l v i = some m ∧ m.length = v.length + l.length ∧ ∀ r, r ∈ m → r ∈ v ∨ r ∈ l
  | [], v, i, _, _, _ => ⟨v, rfl, rfl, fun r hr => .inl hr⟩
  | e :: l, v, i, hv, hl, hn => by
    simp only [List.length_cons] at hn
    obtain ⟨j, h1, h2⟩ := s_SortRecords_l2_p (i := i) (K := s_SortRecords_l0 l) (by omega) hv (hl e (.head _)) v.length fuel0 (Nat.le_refl _) (fuel_lt (by omega))
    have hm : ∀ r, r ∈ (v.take j ++ [e]) ++ v.drop j → r ∈ v ∨ r = e := fun r hr => by
      rcases List.mem_append.1 hr with hr | hr
      · rcases List.mem_append.1 hr with hr | hr
        · exact .inl (List.mem_of_mem_take hr)
        · exact .inr (List.mem_singleton.1 hr)
      · exact .inl (List.mem_of_mem_drop hr)
    have hlen : ((v.take j ++ [e]) ++ v.drop j).length = v.length + 1 := by
      simp only [List.length_append, List.length_singleton, List.length_take, List.length_drop]; omega
    obtain ⟨m, g1, g2, g3⟩ := s_SortRecords_l0_p l ((v.take j ++ [e]) ++ v.drop j) (i + 1) (fun r hr => by
      rcases hm r hr with h | rfl
      · exact hv r h
      · exact hl r (.head _)) (fun r hr => hl r (.tail _ hr)) (by omega)
    refine ⟨m, by rw [s_SortRecords_l0, h2]; exact g1, by rw [g2, hlen, List.length_cons]; omega, fun r hr => ?_⟩
    rcases g3 r hr with h | h
    · rcases hm r h with h | rfl
      · exact .inl h
      · exact .inr (.head _)
    · exact .inr (.tail _ h)

theorem s_SortRecords_p {l : List Rec} (hl : l.length ≤ 1000) (hs : ∀ r, r ∈ l → r.sm) : ∃ m, s_SortRecords l = some m ∧ m.length = l.length ∧ ∀ r, r ∈ m → r ∈ l := by
  obtain ⟨m, h1, h2, h3⟩ := s_SortRecords_l0_p l [] 0 (fun r hr => by cases hr) hs (by simpa using hl)
  refine ⟨m, h1, by simpa using h2, fun r hr => ?_⟩
  rcases h3 r hr with h | h
  · cases h
  · exact h

/-- A small record of a small time. -/
def Rec.smt (r : Rec) : Prop := r.sm ∧ 0 ≤ r.ttl ∧ r.ttl ≤ 1000

theorem s_l10Uniq_l0_p : ∀ (l v : List Rec) (i : Nat), (∀ r, r ∈ v → r.smt) → (∀ r, r ∈ l → r.smt) → v.length + l.length ≤ 1000 → ∃ m, s_l10Uniq_l0 l v i = some m ∧ m.length ≤ v.length + l.length ∧ (0 < v.length ∨ 0 < l.length → 0 < m.length) ∧ ∀ r, r ∈ m → r.smt
  | [], v, i, hv, _, _ => ⟨v, rfl, Nat.le_refl _, fun h => by rcases h with h | h; exact h; simp at h, hv⟩
  | e :: l, v, i, hv, hl, hn => by
    simp only [List.length_cons] at hn
    have he := hl e (.head _)
    have hlt : ∀ r, r ∈ l → r.smt := fun r hr => hl r (.tail _ hr)
    have go : ∀ v' : List Rec, (∀ r, r ∈ v' → r.smt) → v'.length ≤ v.length + 1 → 0 < v'.length → ∃ m, s_l10Uniq_l0 l v' (i + 1) = some m ∧ m.length ≤ v.length + (e :: l).length ∧ (0 < v.length ∨ 0 < (e :: l).length → 0 < m.length) ∧ ∀ r, r ∈ m → r.smt := fun v' h1 h2 h3 => by
      obtain ⟨m, g1, g2, g3, g4⟩ := s_l10Uniq_l0_p l v' (i + 1) h1 hlt (by omega)
      exact ⟨m, g1, by rw [List.length_cons]; omega, fun _ => g3 (.inl h3), g4⟩
    have j1 : ∀ t : Int, 0 ≤ t → t ≤ 1000 → ∃ m, s_l10Uniq_j1 v i e (s_l10Uniq_l0 l) t = some m ∧ m.length ≤ v.length + (e :: l).length ∧ (0 < v.length ∨ 0 < (e :: l).length → 0 < m.length) ∧ ∀ r, r ∈ m → r.smt := fun t t0 t1 => by
      unfold s_l10Uniq_j1
      rw [grd_pos (by rw [List.length_append, List.length_singleton]; omega)]
      refine go _ (fun r hr => ?_) (by rw [List.length_append, List.length_singleton]; omega) (by rw [List.length_append, List.length_singleton]; omega)
      rcases List.mem_append.1 hr with hr | hr
      · exact hv r hr
      · rw [List.mem_singleton] at hr; rw [hr]; exact ⟨⟨he.1.1, he.1.2.1, he.1.2.2⟩, t0, t1⟩
    have j2 : ∀ b : Bool, (b = true → 0 < v.length) → ∃ m, s_l10Uniq_j2 v i e (s_l10Uniq_l0 l) b = some m ∧ m.length ≤ v.length + (e :: l).length ∧ (0 < v.length ∨ 0 < (e :: l).length → 0 < m.length) ∧ ∀ r, r ∈ m → r.smt := fun b hb => by
      unfold s_l10Uniq_j2
      cases b with
      | false => exact j1 _ he.2.1 he.2.2
      | true =>
        have h0 := hb rfl
        obtain ⟨x, e1, hx⟩ := idx_ok (l := v) (i := (v.length : Int) - 1) (by omega) (by omega)
        rw [cond_true, grd_pos (by simp only [i64]; omega), e1, bnd1_mk, grd_pos (by simp only [i64]; omega)]
        generalize (decide (x.name = e.name) && (decide (x.ty = e.ty) && (decide (x.ttl = x.ttl) && (decide (x.n = e.n) && (decide (x.host = e.host) && (decide (x.text = e.text) && true)))))) = b
        cases b with
        | true => exact go v hv (by omega) h0
        | false => exact j1 _ (hv x hx).2.1 (hv x hx).2.2
    rw [s_l10Uniq_l0]
    cases hd : decide (0 < (v.length : Int)) with
    | false => exact j2 false (by simp)
    | true =>
      have h0 : 0 < v.length := by have := of_decide_eq_true hd; omega
      obtain ⟨x, e1, hx⟩ := idx_ok (l := v) (i := (v.length : Int) - 1) (by omega) (by omega)
      rw [cond_true, grd_pos (by simp only [i64]; omega), e1, bnd1_mk, grd_pos (by simp only [i64]; omega)]
      cases decide (x.name = e.name) with
      | true => exact j2 _ (fun _ => h0)
      | false => exact j2 false (by simp)

theorem s_l10Uniq_p {l : List Rec} (hl : l.length ≤ 1000) (hs : ∀ r, r ∈ l → r.smt) : ∃ m, s_l10Uniq l = some m ∧ m.length ≤ l.length ∧ (0 < l.length → 0 < m.length) ∧ ∀ r, r ∈ m → r.smt := by
  obtain ⟨a, h1, h2, h3⟩ := s_SortRecords_p hl fun r hr => (hs r hr).1
  obtain ⟨m, g1, g2, g3, g4⟩ := s_l10Uniq_l0_p a [] 0 (fun r hr => by cases hr) (fun r hr => hs r (h3 r hr)) (by simp; omega)
  unfold s_l10Uniq
  rw [h1, bnd1_mk]
  exact ⟨m, g1, by simpa [h2] using g2, fun h => g3 (.inr (by omega)), g4⟩

theorem smt_of {a b c : ByteArray} {k t n : Int} (h1 : a.size ≤ 1048576) (h2 : b.size ≤ 1048576) (h3 : c.size ≤ 1048576) (t0 : 0 ≤ t) (t1 : t ≤ 1000) : (Rec.mk a k t n b c).smt := ⟨⟨h1, h2, h3⟩, t0, t1⟩

theorem cutsL_srv (apex : ByteArray) : ∀ (l : List Rec) (out : List ByteArray) (x : ByteArray), x ∈ cutsL apex l out → x ∈ out ∨ ∃ r, r ∈ l ∧ r.name = x ∧ r.ty = 2
  | [], out, x, h => .inl h
  | r :: l, out, x, h => by
    unfold cutsL at h
    cases c : cutP apex out r with
    | true =>
      rw [c, cond_true] at h
      rcases cutsL_srv apex l _ x h with h1 | ⟨q, h1, h2⟩
      · rcases List.mem_append.1 h1 with h2 | h2
        · exact .inl h2
        · rw [List.mem_singleton] at h2
          unfold cutP at c
          simp only [Bool.and_eq_true, decide_eq_true_eq] at c
          exact .inr ⟨r, .head _, h2.symm, c.1⟩
      · exact .inr ⟨q, .tail _ h1, h2⟩
    | false =>
      rw [c, cond_false] at h
      rcases cutsL_srv apex l _ x h with h1 | ⟨q, h1, h2⟩
      · exact .inl h1
      · exact .inr ⟨q, .tail _ h1, h2⟩

theorem setOf_pos {l : List Rec} {s : ByteArray} {k : Int} {r : Rec} (hr : r ∈ l) (h1 : r.name = s) (h2 : r.ty = k) : 0 < (setOf l s k).length := by
  unfold setOf
  exact List.length_pos_of_mem (List.mem_filter.2 ⟨hr, by simp [h1, h2]⟩)

theorem cutOf_srv {z : MZone} {s : ByteArray} (h : (cutOf z s).2 = true) : (cutOf z s).1 ∈ cutsOf z ∧ under s (cutOf z s).1 = true ∧ 0 < (setOf z.l (cutOf z s).1 2).length := by
  unfold cutOf at h ⊢
  cases hf : (cutsOf z).find? (under s) with
  | none => rw [hf] at h; cases h
  | some c =>
    have hm := List.mem_of_find?_eq_some hf
    refine ⟨hm, List.find?_some hf, ?_⟩
    rcases cutsL_srv _ _ _ _ hm with h1 | ⟨r, h1, h2, h3⟩
    · cases h1
    · exact setOf_pos h1 h2 h3

theorem setOf_mem {l : List Rec} {s : ByteArray} {k : Int} {r : Rec} (h : r ∈ setOf l s k) : r ∈ l ∧ r.name = s := by
  unfold setOf at h
  obtain ⟨h1, h2⟩ := List.mem_filter.1 h
  simp only [Bool.and_eq_true, decide_eq_true_eq] at h2
  exact ⟨h1, h2.1⟩

theorem helpIn_mem {z : MZone} {q : Quest} {r : Rec} (h : r ∈ helpIn z q) : r ∈ z.l := by
  unfold helpIn at h
  revert h
  cases decide (kindIn z q = 1) <;> intro h <;> simp only [Bool.not_true, Bool.not_false, cond_true, cond_false] at h
  · cases h
  · exact glueL_mem h

/-- Small records of small times, not many. -/
def rl (l : List Rec) (n : Nat) : Prop := l.length ≤ n ∧ ∀ r, r ∈ l → r.smt

theorem rl_nil : rl [] 0 := ⟨Nat.le_refl _, fun r hr => by cases hr⟩

theorem rl_cons {r : Rec} {l : List Rec} {n : Nat} (h : r.smt) (t : rl l n) : rl (r :: l) (n + 1) := ⟨by have := t.1; simp; omega, fun q hq => by
  rcases List.mem_cons.1 hq with rfl | hq
  · exact h
  · exact t.2 q hq⟩

theorem rl_app {a b : List Rec} {m n : Nat} (h : rl a m) (k : rl b n) : rl (a ++ b) (m + n) := ⟨by have := h.1; have := k.1; simp; omega, fun q hq => by
  rcases List.mem_append.1 hq with hq | hq
  · exact h.2 q hq
  · exact k.2 q hq⟩

theorem rl_le {a : List Rec} {m n : Nat} (h : rl a m) (hn : m ≤ n) : rl a n := ⟨Nat.le_trans h.1 hn, h.2⟩

theorem rl_g {a b : List Rec} {m n : Nat} (h : rl a m) (k : rl b n) (hn : m + n ≤ 1000) : (a ++ b).length ≤ 1099511627776 := by have := (rl_app h k).1; omega

theorem uniq_rl {l : List Rec} {n : Nat} (h : rl l n) (hn : n ≤ 1000) : ∃ m, s_l10Uniq l = some m ∧ rl m n := by
  obtain ⟨m, h1, h2, -, h3⟩ := s_l10Uniq_p (l := l) (Nat.le_trans h.1 hn) h.2
  exact ⟨m, h1, Nat.le_trans h2 h.1, h3⟩

/-- Small posts, not many. -/
def pl (l : List MPost) (n : Nat) : Prop := l.length ≤ n ∧ ∀ p, p ∈ l → p.sm

theorem pl_nil : pl [] 0 := ⟨Nat.le_refl _, fun r hr => by cases hr⟩

theorem pl_cons {r : MPost} {l : List MPost} {n : Nat} (h : r.sm) (t : pl l n) : pl (r :: l) (n + 1) := ⟨by have := t.1; simp; omega, fun q hq => by
  rcases List.mem_cons.1 hq with rfl | hq
  · exact h
  · exact t.2 q hq⟩

theorem pl_app {a b : List MPost} {m n : Nat} (h : pl a m) (k : pl b n) : pl (a ++ b) (m + n) := ⟨by have := h.1; have := k.1; simp; omega, fun q hq => by
  rcases List.mem_append.1 hq with hq | hq
  · exact h.2 q hq
  · exact k.2 q hq⟩

theorem pl_le {a : List MPost} {m n : Nat} (h : pl a m) (hn : m ≤ n) : pl a n := ⟨Nat.le_trans h.1 hn, h.2⟩

/-- A drawn forest. -/
def MForest.df (f : MForest) : Prop := f.zones.length ≤ 4 ∧ (∀ z, z ∈ f.zones → z.apex.size ≤ 1048576 ∧ rl z.l 30) ∧ pl f.posts 30

theorem df_sm {f : MForest} (h : f.df) : f.sm := ⟨⟨Nat.le_trans h.1 (by decide), fun z hz => ⟨(h.2.1 z hz).1, Nat.le_trans (h.2.1 z hz).2.1 (by decide), fun r hr => ((h.2.1 z hz).2.2 r hr).1⟩⟩, Nat.le_trans h.2.2.1 (by decide), h.2.2.2⟩

theorem s_l12Draw_j4_p {t : Int} (t0 : 0 ≤ t) (t1 : t ≤ 1000) {a b e : List Rec} {c : Cur} {x1 x2 x3 x4 x5 x6 x7 x8 x9 y : Rec} {p : List MPost} (hc : c.inv) (ha : rl a 10) (hb : rl b 10) (he : rl e 10)
    (h1 : x1.smt) (h2 : x2.smt) (h3 : x3.smt) (h4 : x4.smt) (h5 : x5.smt) (h6 : x6.smt) (h7 : x7.smt) (h8 : x8.smt) (h9 : x9.smt) (hy : y.smt) (hp : pl p 30) :
    ∃ f d, s_l12Draw_j4 t a c.b c.i c.h b e x1 x2 x3 x4 x5 x6 x7 x8 x9 y p = some (f, d) ∧ d.inv ∧ f.df := by
  obtain ⟨u1, g1, k1⟩ := uniq_rl (rl_app hb (rl_cons h3 rl_nil)) (by decide)
  obtain ⟨u2, g2, k2⟩ := uniq_rl (rl_app ha (rl_cons h9 (rl_cons hy rl_nil))) (by decide)
  obtain ⟨u3, g3, k3⟩ := uniq_rl (rl_app he (rl_cons h1 (rl_cons h2 (rl_cons (smt_of (a := ⟨#[97, 108, 46, 111, 114, 103]⟩) (b := ⟨#[119, 119, 119, 46, 101, 120, 46, 99, 111, 109]⟩) (c := ⟨#[]⟩) (k := 5) (t := t) (n := 0) (by decide) (by decide) (by decide) t0 t1) (rl_cons (smt_of (a := ⟨#[108, 111, 46, 111, 114, 103]⟩) (b := ⟨#[108, 111, 46, 99, 111, 109]⟩) (c := ⟨#[]⟩) (k := 5) (t := t) (n := 0) (by decide) (by decide) (by decide) t0 t1) rl_nil))))) (by decide)
  obtain ⟨u4, g4, k4⟩ := uniq_rl (rl_cons h4 (rl_cons h5 (rl_cons h6 (rl_cons h7 (rl_cons h8 rl_nil))))) (by decide)
  unfold s_l12Draw_j4
  rw [g1, bnd1_mk, g2, bnd1_mk, g3, bnd1_mk, g4, bnd1_mk]
  refine ⟨_, _, rfl, hc, by show (4 : Nat) ≤ 4; decide, fun z hz => ?_, hp⟩
  simp only [List.mem_cons, List.not_mem_nil, or_false] at hz
  rcases hz with rfl | rfl | rfl | rfl
  · exact ⟨by show (⟨#[]⟩ : ByteArray).size ≤ _; decide, rl_le k1 (by decide)⟩
  · exact ⟨by show (⟨#[99, 111, 109]⟩ : ByteArray).size ≤ _; decide, rl_le k2 (by decide)⟩
  · exact ⟨by show (⟨#[111, 114, 103]⟩ : ByteArray).size ≤ _; decide, rl_le k3 (by decide)⟩
  · exact ⟨by show (⟨#[101, 120, 46, 99, 111, 109]⟩ : ByteArray).size ≤ _; decide, rl_le k4 (by decide)⟩

theorem s_l12Draw_j3k_p {t : Int} (t0 : 0 ≤ t) (t1 : t ≤ 1000) {a b e : List Rec} {c : Cur} {p : List MPost} {s : ByteArray} (hc : c.inv) (ha : rl a 8) (hb : rl b 8) (he : rl e 4) (hp : pl p 30) (hs : s.size ≤ 1048576) :
    ∃ f d, s_l12Draw_j4 t a c.b c.i c.h b e (Rec.mk (⟨#[111, 114, 103]⟩ : ByteArray) 2 t 0 s (⟨#[]⟩ : ByteArray)) (Rec.mk (⟨#[119, 119, 119, 46, 97, 46, 111, 114, 103]⟩ : ByteArray) 1 t 9 (⟨#[]⟩ : ByteArray) (⟨#[]⟩ : ByteArray)) (Rec.mk (⟨#[111, 114, 103]⟩ : ByteArray) 2 t 0 s (⟨#[]⟩ : ByteArray)) (Rec.mk (⟨#[101, 120, 46, 99, 111, 109]⟩ : ByteArray) 6 t (IntKind.i64.wrap (Int.tdiv t 2)) (⟨#[]⟩ : ByteArray) (⟨#[]⟩ : ByteArray)) (Rec.mk (⟨#[101, 120, 46, 99, 111, 109]⟩ : ByteArray) 2 t 0 (⟨#[110, 115, 46, 101, 120, 46, 99, 111, 109]⟩ : ByteArray) (⟨#[]⟩ : ByteArray)) (Rec.mk (⟨#[110, 115, 46, 101, 120, 46, 99, 111, 109]⟩ : ByteArray) 1 t 3 (⟨#[]⟩ : ByteArray) (⟨#[]⟩ : ByteArray)) (Rec.mk (⟨#[119, 119, 119, 46, 101, 120, 46, 99, 111, 109]⟩ : ByteArray) 1 t 7 (⟨#[]⟩ : ByteArray) (⟨#[]⟩ : ByteArray)) (Rec.mk (⟨#[119, 119, 119, 46, 101, 120, 46, 99, 111, 109]⟩ : ByteArray) 1 t 8 (⟨#[]⟩ : ByteArray) (⟨#[]⟩ : ByteArray)) (Rec.mk (⟨#[101, 120, 46, 99, 111, 109]⟩ : ByteArray) 2 t 0 (⟨#[110, 115, 46, 101, 120, 46, 99, 111, 109]⟩ : ByteArray) (⟨#[]⟩ : ByteArray)) (Rec.mk (⟨#[110, 115, 46, 101, 120, 46, 99, 111, 109]⟩ : ByteArray) 1 t 3 (⟨#[]⟩ : ByteArray) (⟨#[]⟩ : ByteArray)) p = some (f, d) ∧ d.inv ∧ f.df := by
  have sm : ∀ {a b c : ByteArray} {k n : Int}, a.size ≤ 1048576 → b.size ≤ 1048576 → c.size ≤ 1048576 → (Rec.mk a k t n b c).smt := fun h1 h2 h3 => smt_of h1 h2 h3 t0 t1
  exact s_l12Draw_j4_p t0 t1 hc (rl_le ha (by decide)) (rl_le hb (by decide)) (rl_le he (by decide)) (sm (by decide) hs (by decide)) (sm (by decide) (by decide) (by decide)) (sm (by decide) hs (by decide)) (sm (by decide) (by decide) (by decide)) (sm (by decide) (by decide) (by decide)) (sm (by decide) (by decide) (by decide)) (sm (by decide) (by decide) (by decide)) (sm (by decide) (by decide) (by decide)) (sm (by decide) (by decide) (by decide)) (sm (by decide) (by decide) (by decide)) hp

theorem posts_two {p : List MPost} (hp : pl p 8) (k : Int) : pl ((p ++ [MPost.mk 3 (⟨#[101, 120, 46, 99, 111, 109]⟩ : ByteArray)]) ++ [MPost.mk k (⟨#[111, 114, 103]⟩ : ByteArray)]) 30 :=
  pl_le (pl_app (pl_app hp (pl_cons (by show (⟨#[101, 120, 46, 99, 111, 109]⟩ : ByteArray).size ≤ _; decide) pl_nil)) (pl_cons (by show (⟨#[111, 114, 103]⟩ : ByteArray).size ≤ _; decide) pl_nil)) (by decide)

theorem s_l12Draw_j3_p {t : Int} (t0 : 0 ≤ t) (t1 : t ≤ 1000) {a b e : List Rec} {c : Cur} {p : List MPost} {s : ByteArray} (hc : c.inv) (ha : rl a 8) (hb : rl b 8) (he : rl e 4) (hp : pl p 8) (hs : s.size ≤ 1048576) :
    ∃ f d, s_l12Draw_j3 t p a c.b c.i c.h b e s = some (f, d) ∧ d.inv ∧ f.df := by
  have sm : ∀ {a b c : ByteArray} {k n : Int}, a.size ≤ 1048576 → b.size ≤ 1048576 → c.size ≤ 1048576 → (Rec.mk a k t n b c).smt := fun h1 h2 h3 => smt_of h1 h2 h3 t0 t1
  unfold s_l12Draw_j3 s_l10Server s_l10Addr s_l10Start
  rw [bnd1_mk, bnd1_mk, grd_pos (by have := he.1; simp only [List.length_append, List.length_cons, List.length_nil]; omega), bnd1_mk, grd_pos (by have := hb.1; simp only [List.length_append, List.length_cons, List.length_nil]; omega), bnd1_mk, bnd1_mk, bnd1_mk, bnd1_mk, bnd1_mk, bnd1_mk, bnd1_mk, grd_pos (by have := ha.1; simp only [List.length_append, List.length_cons, List.length_nil]; omega), grd_pos (by have := (posts_two hp 4).1; simp only [List.length_append] at this ⊢; omega)]
  cases decide (s = (⟨#[110, 115, 46, 111, 114, 103]⟩ : ByteArray)) with
  | true => rw [cond_true, grd_pos (by have := (posts_two hp 4).1; omega)]; exact s_l12Draw_j3k_p t0 t1 hc ha hb he (posts_two hp 4) hs
  | false => rw [cond_false, grd_pos (by have := (posts_two hp 3).1; omega)]; exact s_l12Draw_j3k_p t0 t1 hc ha hb he (posts_two hp 3) hs

theorem s_l12Draw_j2_p {t : Int} (t0 : 0 ≤ t) (t1 : t ≤ 1000) {a b : List Rec} {c : Cur} {p : List MPost} (hc : c.inv) (ha : rl a 8) (hb : rl b 6) (hp : pl p 8) : ∃ f d, s_l12Draw_j2 t b p c.b c.i c.h a = some (f, d) ∧ d.inv ∧ f.df := by
  have sm : ∀ {a b c : ByteArray} {k n : Int}, a.size ≤ 1048576 → b.size ≤ 1048576 → c.size ≤ 1048576 → (Rec.mk a k t n b c).smt := fun h1 h2 h3 => smt_of h1 h2 h3 t0 t1
  obtain ⟨o, d1, e1, h1⟩ := s_l1Once_p (n := 2) hc (by omega) (by omega)
  have q1 : (Rec.mk (⟨#[111, 114, 103]⟩ : ByteArray) 6 t (IntKind.i64.wrap (Int.tdiv t 2)) (⟨#[]⟩ : ByteArray) (⟨#[]⟩ : ByteArray)).smt := sm (by decide) (by decide) (by decide)
  have q2 : (Rec.mk (⟨#[110, 115, 46, 111, 114, 103]⟩ : ByteArray) 1 t 4 (⟨#[]⟩ : ByteArray) (⟨#[]⟩ : ByteArray)).smt := sm (by decide) (by decide) (by decide)
  unfold s_l12Draw_j2 s_l10Start s_l10Addr
  rw [bnd1_mk, show Cur.mk c.b c.i c.h = c from rfl, e1, bnd2_mk]
  cases o with
  | true => rw [cond_true]; exact s_l12Draw_j3_p t0 t1 h1 ha (rl_le hb (by decide)) (rl_le (rl_cons q1 rl_nil) (by decide)) hp (by decide)
  | false =>
    rw [cond_false, bnd1_mk, grd_pos (by simp), bnd1_mk, grd_pos (rl_g hb (rl_cons q2 rl_nil) (by decide))]
    exact s_l12Draw_j3_p t0 t1 h1 ha (rl_le (rl_app hb (rl_cons q2 rl_nil)) (by decide)) (rl_le (rl_app (rl_cons q1 rl_nil) (rl_cons q2 rl_nil)) (by decide)) hp (by decide)

theorem s_l12Draw_j1_p {t : Int} (t0 : 0 ≤ t) (t1 : t ≤ 1000) {a b : List Rec} {c : Cur} {p : List MPost} (hc : c.inv) (ha : rl a 6) (hb : rl b 6) (hp : pl p 8) : ∃ f d, s_l12Draw_j1 t b p c.b c.i c.h a = some (f, d) ∧ d.inv ∧ f.df := by
  have sm : ∀ {a b c : ByteArray} {k n : Int}, a.size ≤ 1048576 → b.size ≤ 1048576 → c.size ≤ 1048576 → (Rec.mk a k t n b c).smt := fun h1 h2 h3 => smt_of h1 h2 h3 t0 t1
  unfold s_l12Draw_j1
  rw [show Cur.mk c.b c.i c.h = c from rfl]
  obtain ⟨s, d0, e0, h0, hs⟩ := s_l1Str_p (c := c) (l := [(⟨#[119, 119, 119, 46, 101, 120, 46, 99, 111, 109]⟩ : ByteArray), (⟨#[119, 119, 119, 46, 97, 46, 111, 114, 103]⟩ : ByteArray), (⟨#[108, 111, 46, 111, 114, 103]⟩ : ByteArray), (⟨#[110, 111, 46, 99, 111, 109]⟩ : ByteArray), (⟨#[97, 108, 46, 111, 114, 103]⟩ : ByteArray)]) hc (by decide) (by decide)
  have hss : s.size ≤ 1048576 := by
    simp only [List.mem_cons, List.not_mem_nil, or_false] at hs
    rcases hs with rfl | rfl | rfl | rfl | rfl <;> decide
  have q1 : (Rec.mk (⟨#[97, 108, 46, 99, 111, 109]⟩ : ByteArray) 5 t 0 s (⟨#[]⟩ : ByteArray)).smt := sm (by decide) hss (by decide)
  have q2 : (Rec.mk (⟨#[108, 111, 46, 99, 111, 109]⟩ : ByteArray) 5 t 0 (⟨#[108, 111, 46, 111, 114, 103]⟩ : ByteArray) (⟨#[]⟩ : ByteArray)).smt := sm (by decide) (by decide) (by decide)
  obtain ⟨o, d1, e1, h1⟩ := s_l1Once_p (n := 3) h0 (by omega) (by omega)
  rw [e0, bnd2_mk, grd_pos (rl_g ha (rl_cons q1 rl_nil) (by decide)), e1, bnd2_mk]
  cases o with
  | true =>
    rw [cond_true, grd_pos (rl_g (rl_app ha (rl_cons q1 rl_nil)) (rl_cons q2 rl_nil) (by decide))]
    exact s_l12Draw_j2_p t0 t1 h1 (rl_le (rl_app (rl_app ha (rl_cons q1 rl_nil)) (rl_cons q2 rl_nil)) (by decide)) hb hp
  | false => exact s_l12Draw_j2_p t0 t1 h1 (rl_le (rl_app ha (rl_cons q1 rl_nil)) (by decide)) hb hp

theorem s_l12Draw_j0_p {t : Int} (t0 : 0 ≤ t) (t1 : t ≤ 1000) {a b : List Rec} {c : Cur} {p : List MPost} (hc : c.inv) (ha : rl a 4) (hb : rl b 6) (hp : pl p 8) : ∃ f d, s_l12Draw_j0 t c.b c.i c.h b a p = some (f, d) ∧ d.inv ∧ f.df := by
  have sm : ∀ {a b c : ByteArray} {k n : Int}, a.size ≤ 1048576 → b.size ≤ 1048576 → c.size ≤ 1048576 → (Rec.mk a k t n b c).smt := fun h1 h2 h3 => smt_of h1 h2 h3 t0 t1
  obtain ⟨o, d1, e1, h1⟩ := s_l1Once_p (n := 3) hc (by omega) (by omega)
  have q1 : (Rec.mk (⟨#[116, 46, 99, 111, 109]⟩ : ByteArray) 16 t 0 (⟨#[]⟩ : ByteArray) (⟨#[104, 105]⟩ : ByteArray)).smt := sm (by decide) (by decide) (by decide)
  have q2 : (Rec.mk (⟨#[98, 46, 116, 46, 99, 111, 109]⟩ : ByteArray) 1 t 40 (⟨#[]⟩ : ByteArray) (⟨#[]⟩ : ByteArray)).smt := sm (by decide) (by decide) (by decide)
  unfold s_l12Draw_j0 s_l10Addr
  rw [show Cur.mk c.b c.i c.h = c from rfl, e1, bnd2_mk]
  cases o with
  | true =>
    rw [cond_true, bnd1_mk, grd_pos (rl_g ha (rl_cons q1 (rl_cons q2 rl_nil)) (by decide))]
    exact s_l12Draw_j1_p t0 t1 h1 (rl_le (rl_app ha (rl_cons q1 (rl_cons q2 rl_nil))) (by decide)) hb hp
  | false => exact s_l12Draw_j1_p t0 t1 h1 (rl_le ha (by decide)) hb hp

theorem s_l12Draw_p {c : Cur} (hc : c.inv) : ∃ f d, s_l12Draw c = some (f, d) ∧ d.inv ∧ f.df := by
  obtain ⟨t, d1, e1, h1, ht⟩ := s_l1Int_p (l := [3, 20, 300]) hc (by decide) (by decide)
  obtain ⟨t0, t1⟩ : 0 ≤ t ∧ t ≤ 1000 := by
    simp only [List.mem_cons, List.not_mem_nil, or_false] at ht
    omega
  have sm : ∀ {a b c : ByteArray} {k n : Int}, a.size ≤ 1048576 → b.size ≤ 1048576 → c.size ≤ 1048576 → (Rec.mk a k t n b c).smt := fun h1 h2 h3 => smt_of h1 h2 h3 t0 t1
  obtain ⟨o, d2, e2, h2⟩ := s_l1Once_p (n := 2) h1 (by omega) (by omega)
  have q1 : (Rec.mk (⟨#[]⟩ : ByteArray) 6 t (IntKind.i64.wrap (Int.tdiv t 2)) (⟨#[]⟩ : ByteArray) (⟨#[]⟩ : ByteArray)).smt := sm (by decide) (by decide) (by decide)
  have q2 : (Rec.mk (⟨#[]⟩ : ByteArray) 2 t 0 (⟨#[110, 115, 46, 99, 111, 109]⟩ : ByteArray) (⟨#[]⟩ : ByteArray)).smt := sm (by decide) (by decide) (by decide)
  have q3 : (Rec.mk (⟨#[99, 111, 109]⟩ : ByteArray) 2 t 0 (⟨#[110, 115, 46, 99, 111, 109]⟩ : ByteArray) (⟨#[]⟩ : ByteArray)).smt := sm (by decide) (by decide) (by decide)
  have q4 : ∀ n, (Rec.mk (⟨#[110, 115, 46, 99, 111, 109]⟩ : ByteArray) 1 t n (⟨#[]⟩ : ByteArray) (⟨#[]⟩ : ByteArray)).smt := fun n => sm (by decide) (by decide) (by decide)
  have q5 : (Rec.mk (⟨#[99, 111, 109]⟩ : ByteArray) 6 t (IntKind.i64.wrap (Int.tdiv t 2)) (⟨#[]⟩ : ByteArray) (⟨#[]⟩ : ByteArray)).smt := sm (by decide) (by decide) (by decide)
  have q6 : (Rec.mk (⟨#[99, 111, 109]⟩ : ByteArray) 2 t 0 (⟨#[110, 115, 46, 99, 111, 109]⟩ : ByteArray) (⟨#[]⟩ : ByteArray)).smt := sm (by decide) (by decide) (by decide)
  have p0 : ∀ k, (MPost.mk k (⟨#[]⟩ : ByteArray)).sm := fun k => by show (⟨#[]⟩ : ByteArray).size ≤ _; decide
  have p1 : ∀ k, (MPost.mk k (⟨#[99, 111, 109]⟩ : ByteArray)).sm := fun k => by show (⟨#[99, 111, 109]⟩ : ByteArray).size ≤ _; decide
  have pp : ∀ k, pl [MPost.mk k (⟨#[]⟩ : ByteArray), MPost.mk k (⟨#[99, 111, 109]⟩ : ByteArray)] 2 := fun k => pl_cons (p0 k) (pl_cons (p1 k) pl_nil)
  unfold s_l12Draw s_l10Start s_l10Server s_l10Addr
  rw [e1, bnd2_mk]
  simp only [bnd1_mk]
  rw [e2, bnd2_mk]
  cases o with
  | true =>
    rw [cond_true, grd_pos (by simp), grd_pos (by simp), grd_pos (by simp)]
    exact s_l12Draw_j0_p t0 t1 h2 (rl_app (rl_cons q5 (rl_cons q6 (rl_cons (q4 2) rl_nil))) (rl_cons (q4 12) rl_nil)) (rl_le (rl_app (rl_cons q1 (rl_cons q2 (rl_cons q3 (rl_cons (q4 2) rl_nil)))) (rl_cons (q4 12) rl_nil)) (by decide)) (pl_le (pl_app (pp 2) (pp 12)) (by decide))
  | false => exact s_l12Draw_j0_p t0 t1 h2 (rl_le (rl_cons q5 (rl_cons q6 (rl_cons (q4 2) rl_nil))) (by decide)) (rl_le (rl_cons q1 (rl_cons q2 (rl_cons q3 (rl_cons (q4 2) rl_nil)))) (by decide)) (pl_le (pp 2) (by decide))

/-- Small records, not many. -/
def sl (l : List Rec) (n : Nat) : Prop := l.length ≤ n ∧ ∀ r, r ∈ l → r.sm

/-- A drawn message. -/
def MMsg.dm (m : MMsg) (n : Nat) : Prop := m.q.sm ∧ sl m.an n ∧ sl m.au n ∧ sl m.ad n

theorem dm_sm {m : MMsg} {n : Nat} (h : m.dm n) (hn : n ≤ 1000) : m.sm := ⟨h.1, ⟨by have := h.2.1.1; omega, h.2.1.2⟩, ⟨by have := h.2.2.1.1; omega, h.2.2.1.2⟩, ⟨by have := h.2.2.2.1; omega, h.2.2.2.2⟩⟩

theorem take_sl {l : List Rec} (h : smL l) : sl (l.take 8) 8 := ⟨take8_len, fun r hr => h.2 r (List.mem_of_mem_take hr)⟩

theorem serve_dm {z : MZone} {m : MMsg} (h : z.sm) (hq : m.q.sm) : (serve z m).dm 8 := ⟨hq, take_sl (answerIn_sm h m.q), take_sl (moreIn_sm h m.q), ⟨take8_len, fun r hr => h.2.2 r (helpIn_mem (List.mem_of_mem_take hr))⟩⟩

theorem setOf_ty {l : List Rec} {s : ByteArray} {k : Int} {r : Rec} (h : r ∈ setOf l s k) : r.ty = k := by
  unfold setOf at h
  obtain ⟨h1, h2⟩ := List.mem_filter.1 h
  simp only [Bool.and_eq_true, decide_eq_true_eq] at h2
  exact h2.2

theorem cutsL_full (apex : ByteArray) : ∀ (l : List Rec) (out : List ByteArray) (x : ByteArray), x ∈ cutsL apex l out → x ∈ out ∨ (x ≠ apex ∧ under x apex = true)
  | [], out, x, h => .inl h
  | r :: l, out, x, h => by
    unfold cutsL at h
    cases c : cutP apex out r with
    | true =>
      rw [c, cond_true] at h
      rcases cutsL_full apex l _ x h with h1 | h1
      · rcases List.mem_append.1 h1 with h2 | h2
        · exact .inl h2
        · rw [List.mem_singleton] at h2
          unfold cutP at c
          simp only [Bool.and_eq_true, Bool.not_eq_true', decide_eq_false_iff_not, decide_eq_true_eq] at c
          rw [h2]
          exact .inr ⟨c.2.1, c.2.2.1⟩
      · exact .inr h1
    | false =>
      rw [c, cond_false] at h
      exact cutsL_full apex l out x h

theorem cutOf_full {z : MZone} {s : ByteArray} (h : (cutOf z s).2 = true) : (cutOf z s).1 ≠ z.apex ∧ under (cutOf z s).1 z.apex = true ∧ under s (cutOf z s).1 = true ∧ 0 < (setOf z.l (cutOf z s).1 2).length := by
  obtain ⟨h1, h2, h3⟩ := cutOf_srv h
  rcases cutsL_full z.apex z.l [] _ h1 with h4 | ⟨h4, h5⟩
  · cases h4
  · exact ⟨h4, h5, h2, h3⟩

/-- What is told of a message that has no cut bit. -/
theorem i_ClassOf_at {m : MMsg} {s : ByteArray} (hm : m.sm) (hs : s.size ≤ 1048576) (hc : m.cut = false) : i_ClassOf m s = (if m.code = 0 ∨ m.code = 3 then
    (if m.auth = true ∧ m.code = 0 ∧ 0 < (setOf m.an m.q.name m.q.ty).length then some 3 else if m.auth = true ∧ (aliasIn m).2 = true ∧ m.q.ty ≠ 5 then some 2 else if m.auth = true ∧ m.code = 3 then some 5 else if m.auth = true ∧ m.an.length = 0 then some 4 else if m.auth = false ∧ m.code = 0 ∧ m.an.length = 0 ∧ (downIn m s).2 = true then some 1 else some 0) else some 0) := by
  have a1 := i_AliasIn_eq hm
  have a3 := i_DownIn_eq hm hs
  unfold i_ClassOf
  generalize aliasIn m = x at a1
  generalize downIn m s = y at a3
  obtain ⟨x1, x2⟩ := x
  obtain ⟨y1, y2⟩ := y
  rw [a3, bnd2_mk, a1, bnd2_mk, hc, cond_false]
  unfold i_ClassOf_j0
  rw [i_SetIn_eq hm, bnd1_mk]
  unfold i_ClassOf_j1 i_ClassOf_j2 i_ClassOf_j3 i_ClassOf_j4 i_ClassOf_j5
  generalize setOf m.an m.q.name m.q.ty = st
  have e1 : ((st.length : Int) > 0) = (0 < st.length) := by simp
  have e2 : ((m.an.length : Int) = 0) = (m.an.length = 0) := by simp
  have e3 : (0 < (st.length : Int)) = (0 < st.length) := by simp
  simp only [e2, e3]
  generalize m.an.length = n
  by_cases c1 : m.code = 0
  · cases c2 : m.auth <;> by_cases c3 : 0 < st.length <;> cases x2 <;> by_cases c4 : m.q.ty = 5 <;> by_cases c5 : n = 0 <;> cases y2 <;> simp [c1, c2, c3, c4, c5]
  · by_cases c6 : m.code = 3
    · cases c2 : m.auth <;> cases x2 <;> by_cases c4 : m.q.ty = 5 <;> by_cases c5 : n = 0 <;> cases y2 <;> simp [c1, c2, c6, c4, c5]
    · simp [c1, c6]

theorem setOf_take {l : List Rec} {s : ByteArray} {k : Int} (n : Nat) : setOf ((setOf l s k).take n) s k = (setOf l s k).take n := by
  unfold setOf
  rw [List.filter_eq_self]
  intro r hr
  exact (List.mem_filter.1 (List.mem_of_mem_take hr)).2

theorem setOf_other {l : List Rec} {s : ByteArray} {k k' : Int} (n : Nat) (h : k ≠ k') : setOf ((setOf l s k).take n) s k' = [] := by
  unfold setOf
  rw [List.filter_eq_nil_iff]
  intro r hr
  have := (List.mem_filter.1 (List.mem_of_mem_take hr)).2
  simp only [Bool.and_eq_true, decide_eq_true_eq] at this ⊢
  intro h2
  exact h (this.2.symm.trans h2.2)

theorem take8_len_pos {l : List Rec} (h : 0 < l.length) : 0 < (l.take 8).length := by rw [List.length_take]; omega

/-- A server of a zone gives a reply that is told to be what the zone has. -/
theorem classOf_serve {z : MZone} {q : Quest} (hz : z.sm) (hq : q.sm) (hu : under q.name z.apex = true) :
    i_ClassOf (serve z ⟨9, false, false, false, false, false, 0, q, [], [], []⟩) z.apex = some (kindIn z q) ∧ kindIn z q ≠ 0 ∧
    (kindIn z q = 1 → downIn (serve z ⟨9, false, false, false, false, false, 0, q, [], [], []⟩) z.apex = ((cutOf z q.name).1, true) ∧ under (cutOf z q.name).1 z.apex = true ∧ 0 < (serversIn (serve z ⟨9, false, false, false, false, false, 0, q, [], [], []⟩) z.apex).length) := by
  have hd := serve_dm (m := ⟨9, false, false, false, false, false, 0, q, [], [], []⟩) hz hq
  have hm := dm_sm hd (by omega)
  have hC := i_ClassOf_at hm hz.1 rfl
  have h10 : ∀ k : Int, k = 1 → k ≠ 0 := fun k h => by omega
  rw [hC]
  clear hC hm hd
  have hk : kindIn z q = bif (cutOf z q.name).2 then 1 else (bif !decide (q.ty = 5) && decide (0 < ((setOf z.l q.name 5).length : Int)) then 2 else (bif decide (0 < ((setOf z.l q.name q.ty).length : Int)) then 3 else (bif z.l.any (fun r => under r.name q.name) then 4 else 5))) := by
    unfold kindIn; rw [hu]; rfl
  unfold serve reply aliasIn
  simp only
  by_cases k1 : kindIn z q = 1
  · have hc : (cutOf z q.name).2 = true := by
      rw [hk] at k1
      cases hc : (cutOf z q.name).2 with
      | true => rfl
      | false =>
        rw [hc] at k1
        exfalso
        revert k1
        generalize (!decide (q.ty = 5) && decide (0 < ((setOf z.l q.name 5).length : Int))) = a
        generalize decide (0 < ((setOf z.l q.name q.ty).length : Int)) = b
        generalize z.l.any (fun r => under r.name q.name) = c
        cases a <;> cases b <;> cases c <;> decide
    obtain ⟨g1, g2, g3, g4⟩ := cutOf_full hc
    have hA : answerIn z q = [] := by unfold answerIn; rw [k1]; rfl
    have hM : moreIn z q = setOf z.l (cutOf z q.name).1 2 := by unfold moreIn; rw [k1]; rfl
    rw [hA, hM, k1]
    generalize (cutOf z q.name).1 = cut at g1 g2 g3 g4
    have hfind : ∀ m : MMsg, m.q = q → m.au = (setOf z.l cut 2).take 8 → ∃ r, m.au.find? (downP m z.apex) = some r ∧ r.name = cut := fun m e1 e2 => by
      have hp := take8_len_pos g4
      cases hl : (setOf z.l cut 2).take 8 with
      | nil => rw [hl] at hp; cases hp
      | cons r t =>
        have hr : r ∈ (setOf z.l cut 2).take 8 := by rw [hl]; exact .head _
        have h1 := setOf_mem (List.mem_of_mem_take hr)
        have h2 := setOf_ty (List.mem_of_mem_take hr)
        refine ⟨r, ?_, h1.2⟩
        rw [e2, hl]
        refine List.find?_cons_of_pos ?_
        unfold downP
        rw [h1.2, h2, e1, g2, g3, decide_eq_false g1]; rfl
    have hdn : ∀ m : MMsg, m.q = q → m.au = (setOf z.l cut 2).take 8 → downIn m z.apex = (cut, true) := fun m e1 e2 => by
      obtain ⟨r, f1, f2⟩ := hfind m e1 e2
      unfold downIn; rw [f1, ← f2]
    refine ⟨?_, by decide, fun _ => ⟨hdn _ rfl rfl, g2, ?_⟩⟩
    · rw [hdn _ rfl rfl]; simp
    · unfold serversIn
      obtain ⟨r, f1, f2⟩ := hfind ⟨9, true, !decide ((1 : Int) = 0) && !decide ((1 : Int) = 1), false, false, false, bif decide ((1 : Int) = 0) then 5 else bif decide ((1 : Int) = 5) then 3 else 0, q, ([] : List Rec).take 8, (setOf z.l cut 2).take 8, (helpIn z q).take 8⟩ rfl rfl
      rw [f1]
      show 0 < (setOf ((setOf z.l cut 2).take 8) r.name 2).length
      rw [f2, setOf_take]
      exact take8_len_pos g4
  · have hc : (cutOf z q.name).2 = false := by
      cases hc : (cutOf z q.name).2 with
      | false => rfl
      | true => rw [hc] at hk; exact absurd hk k1
    rw [hc, cond_false] at hk
    cases hal : (!decide (q.ty = 5) && decide (0 < ((setOf z.l q.name 5).length : Int))) with
    | true =>
      rw [hal, cond_true] at hk
      simp only [Bool.and_eq_true, Bool.not_eq_true', decide_eq_false_iff_not, decide_eq_true_eq] at hal
      have hA : answerIn z q = setOf z.l q.name 5 := by unfold answerIn; rw [hk]; rfl
      have hp : 0 < (setOf z.l q.name 5).length := by omega
      rw [hA, hk]
      refine ⟨?_, by decide, fun h => absurd h (by decide)⟩
      rw [setOf_other 8 (Ne.symm hal.1), setOf_take]
      have := take8_len_pos hp
      cases hl : (setOf z.l q.name 5).take 8 with
      | nil => rw [hl] at this; cases this
      | cons r t => simp [hal.1]
    | false =>
      rw [hal, cond_false] at hk
      cases hs : decide (0 < ((setOf z.l q.name q.ty).length : Int)) with
      | true =>
        rw [hs, cond_true] at hk
        have hp : 0 < (setOf z.l q.name q.ty).length := by have := of_decide_eq_true hs; omega
        have hA : answerIn z q = setOf z.l q.name q.ty := by unfold answerIn; rw [hk]; rfl
        rw [hA, hk]
        refine ⟨?_, by decide, fun h => absurd h (by decide)⟩
        rw [setOf_take 8]
        rw [if_pos (.inl rfl), if_pos ⟨rfl, rfl, take8_len_pos hp⟩]
      | false =>
        rw [hs, cond_false] at hk
        cases hx : z.l.any (fun r => under r.name q.name) with
        | true =>
          rw [hx, cond_true] at hk
          have hA : answerIn z q = [] := by unfold answerIn; rw [hk]; rfl
          rw [hA, hk]
          refine ⟨?_, by decide, fun h => absurd h (by decide)⟩
          simp [setOf]
        | false =>
          rw [hx, cond_false] at hk
          have hA : answerIn z q = [] := by unfold answerIn; rw [hk]; rfl
          rw [hA, hk]
          refine ⟨?_, by decide, fun h => absurd h (by decide)⟩
          simp [setOf]

theorem classes_l1 {q : Quest} {x : List ByteArray} (hq : q.sm) (hx : 0 < x.length) : ∀ (l : List MZone) (i : Nat), (∀ z, z ∈ l → z.sm) → w_FnClasses_l1 q x l i = some true
  | [], i, _ => by rw [w_FnClasses_l1, w_FnClasses_j0, decide_eq_true (by omega)]
  | z :: l, i, h => by
    have hz := h z (.head _)
    have ih := classes_l1 hq hx l (i + 1) fun y hy => h y (.tail _ hy)
    rw [w_FnClasses_l1, i_Under_eq hq hz.1, bnd1_mk]
    cases hu : under q.name z.apex with
    | false => exact ih
    | true =>
      obtain ⟨h1, h2, h3⟩ := classOf_serve hz hq hu
      have hd := serve_dm (m := ⟨9, false, false, false, false, false, 0, q, [], [], []⟩) hz hq
      have hm := dm_sm hd (by omega)
      have hi := i_Serve_eq (m := ⟨9, false, false, false, false, false, 0, q, [], [], []⟩) hz hq
      rw [Bool.not_true, cond_false]
      unfold i_AskMsg
      rw [bnd1_mk, hi, bnd1_mk, h1, bnd1_mk, decide_eq_false h2, cond_false, i_KindIn_eq hz hq, bnd1_mk, beq_self_eq_true, Bool.not_true, cond_false, bnd1_mk, decide_eq_true rfl, Bool.not_true]
      unfold w_FnClasses_j2
      rw [cond_false]
      by_cases k1 : kindIn z q = 1
      · obtain ⟨g1, g2, g3⟩ := h3 k1
        rw [decide_eq_true k1, cond_true, i_DownIn_eq hm hz.1, g1, bnd2_mk, Bool.not_true, cond_false, i_Under_eq (by
          have := (cutOf_srv (z := z) (s := q.name) (by
            unfold kindIn at k1
            rw [hu] at k1
            cases hc : (cutOf z q.name).2 with
            | true => rfl
            | false =>
              rw [hc] at k1
              exfalso
              revert k1
              generalize (!decide (q.ty = 5) && decide (0 < ((setOf z.l q.name 5).length : Int))) = a
              generalize decide (0 < ((setOf z.l q.name q.ty).length : Int)) = b
              generalize z.l.any (fun r => under r.name q.name) = c
              cases a <;> cases b <;> cases c <;> decide)).1
          exact (cutsOf_sm hz).2 _ this) hz.1, bnd1_mk, g2, Bool.not_true, cond_false, i_ServersIn_eq hm hz.1, bnd1_mk, decide_eq_false (by omega)]
        exact ih
      · rw [decide_eq_false k1, cond_false]; exact ih

def aboveOk (s : ByteArray) : Bool := match i_Above s with | some l => Nat.blt 0 l.length | none => false

theorem s_l12Name_c {c : Cur} (h : c.inv) : ∃ r, s_l12Name c = some r ∧ r.2.inv ∧ r.1.size ≤ 1048576 ∧ aboveOk r.1 = true := by
  unfold s_l12Name
  refine (fun {l : List ByteArray} (h1 : 0 < l.length) (h2 : l.length ≤ 256) (h3 : (l.all fun y => Nat.ble y.size 1048576) = true) (h4 : l.all aboveOk = true) => ?_ : ∀ {l : List ByteArray}, 0 < l.length → l.length ≤ 256 → (l.all fun y => Nat.ble y.size 1048576) = true → l.all aboveOk = true → ∃ r, bnd2 (s_l1Str c l) (fun x1 x2 => some (x1, x2)) = some r ∧ r.2.inv ∧ r.1.size ≤ 1048576 ∧ aboveOk r.1 = true) (by decide) (by decide) rfl (by kernel_rfl)
  obtain ⟨x, d, e, hd, hm⟩ := s_l1Str_p h h1 h2
  rw [e, bnd2_mk]
  exact ⟨_, rfl, hd, small_of h3 hm, List.all_eq_true.1 h4 x hm⟩

theorem s_DrawForest_c {p : List Int} (hp : p.length ≤ 1048576) : ∃ f q, s_DrawForest p = some (f, q) ∧ f.df ∧ q.sm ∧ aboveOk q.name = true := by
  obtain ⟨c, e, hc⟩ := s_l1New_p hp
  obtain ⟨f, d, e2, hd, hf⟩ := s_l12Draw_p hc
  obtain ⟨⟨n, d2⟩, e3, hd2, hn, ha⟩ := s_l12Name_c hd
  obtain ⟨t, d3, e4, hd3, -⟩ := s_l1Int_p (c := d2) (l := [1, 1, 1, 1, 2, 5, 6, 16]) hd2 (by decide) (by decide)
  unfold s_DrawForest s_l12Quest
  rw [e, bnd1_mk, e2, bnd2_mk, e3, bnd2_mk, e4, bnd2_mk, bnd2_mk]
  exact ⟨_, _, rfl, hf, hn, ha⟩

theorem law_FnClasses {p : List Int} (hp : p.length ≤ 9223372036854775807 ∧ ∀ q, q ∈ p → 0 ≤ q ∧ q < 256) : w_FnClasses p = some true := by
  unfold w_FnClasses
  rw [w_big_eq, bnd1_mk]
  by_cases hb : 1048576 < (p.length : Int)
  · rw [decide_eq_true hb]; rfl
  rw [decide_eq_false hb, cond_false]
  obtain ⟨f, q, e, hf, hq, ha⟩ := s_DrawForest_c (p := p) (by omega)
  rw [e, bnd2_mk]
  unfold aboveOk at ha
  cases hx : i_Above q.name with
  | none => rw [hx] at ha; cases ha
  | some l =>
    rw [hx] at ha
    rw [bnd1_mk]
    exact classes_l1 hq (by simpa [Nat.blt_eq] using ha) _ _ (df_sm hf).1.2
end Go.Abs.M
