/- The pure law of FnFactsSame: its pure function answers true. -/
import Derived.Test.YtbkmnbpgpklojaaGreatDoorFnsFnFactsSame
set_option linter.unusedSimpArgs false
set_option linter.unusedVariables false
namespace Go.Abs.M
open Go Go.Abs
theorem grd_i {α : Type} {x : Int} {y : Option α} (h : -9223372036854775808 ≤ x ∧ x < 9223372036854775808 := by omega) : grd (i64 x) y = y := grd_pos h
theorem idx_nat {α : Type} {l : List α} {n : Nat} : idx l (n : Int) = l[n]? := by simp [idx]
theorem idx_zero {α : Type} {l : List α} : idx l 0 = l[0]? := by simp [idx]
def zrec : Rec := ⟨⟨#[]⟩, 0, 0, 0, ⟨#[]⟩, ⟨#[]⟩⟩
def first (p : Rec → Bool) (l : List Rec) : Rec := (l.find? p).getD zrec
def setOf (l : List Rec) (nm : ByteArray) (k : Int) : List Rec := l.filter fun r => decide (r.name = nm) && decide (r.ty = k)
theorem setOf_len (l : List Rec) (nm : ByteArray) (k : Int) : (setOf l nm k).length ≤ l.length := List.length_filter_le ..
theorem i_SetOf_l0_eq (nm : ByteArray) (k : Int) : ∀ (l out : List Rec) (i : Nat), out.length + l.length ≤ 1099511627776 → i_SetOf_l0 nm k l out i = some (out ++ setOf l nm k)
 | [], out, i, _ => by simp [i_SetOf_l0, setOf]
 | r :: l, out, i, h => by
  simp only [List.length_cons] at h
  have h1 := i_SetOf_l0_eq nm k l (out ++ [r]) (i + 1) (by simp; omega)
  have h2 := i_SetOf_l0_eq nm k l out (i + 1) (by omega)
  rw [i_SetOf_l0]
  by_cases c : r.name = nm <;> by_cases c' : r.ty = k <;> simp [i_SetOf_j1, c, c', h2, setOf] <;> first
   | (rw [grd_pos (by omega), h1]; simp [setOf, c, c'])
theorem s_SetOf_l0_eq (nm : ByteArray) (k : Int) : ∀ (l out : List Rec) (i : Nat), out.length + l.length ≤ 1099511627776 → s_SetOf_l0 nm k l out i = some (out ++ setOf l nm k)
 | [], out, i, _ => by simp [s_SetOf_l0, setOf]
 | r :: l, out, i, h => by
  simp only [List.length_cons] at h
  have h1 := s_SetOf_l0_eq nm k l (out ++ [r]) (i + 1) (by simp; omega)
  have h2 := s_SetOf_l0_eq nm k l out (i + 1) (by omega)
  rw [s_SetOf_l0]
  by_cases c : r.name = nm <;> by_cases c' : r.ty = k <;> simp [s_SetOf_j1, c, c', h2, setOf] <;> first
   | (rw [grd_pos (by omega), h1]; simp [setOf, c, c'])
def Rec.sm (r : Rec) : Prop := r.name.size ≤ 1048576 ∧ r.host.size ≤ 1048576 ∧ r.text.size ≤ 1048576
def smL (l : List Rec) : Prop := l.length ≤ 1048576 ∧ ∀ r, r ∈ l → r.sm
def MZone.sm (z : MZone) : Prop := z.apex.size ≤ 1048576 ∧ smL z.l
def Quest.sm (q : Quest) : Prop := q.name.size ≤ 1048576
theorem setOf_sm {l : List Rec} (h : smL l) (nm : ByteArray) (k : Int) : smL (setOf l nm k) := ⟨Nat.le_trans (setOf_len l nm k) h.1, fun r hr => h.2 r ((List.mem_filter.1 hr).1)⟩
theorem i_SetOf_eq {l : List Rec} {nm : ByteArray} {k : Int} (h : smL l) : i_SetOf l nm k = some (setOf l nm k) := by
 unfold i_SetOf; rw [i_SetOf_l0_eq _ _ _ _ _ (by have := h.1; simp; omega)]; rfl
theorem s_SetOf_eq {l : List Rec} {nm : ByteArray} {k : Int} (h : smL l) : s_SetOf l nm k = some (setOf l nm k) := by
 unfold s_SetOf; rw [s_SetOf_l0_eq _ _ _ _ _ (by have := h.1; simp; omega)]; rfl
def mkB (l : List UInt8) : ByteArray := ⟨l.toArray⟩
def bts (s : ByteArray) : List UInt8 := s.data.toList
theorem bts_mkB (l : List UInt8) : bts (mkB l) = l := rfl
theorem mkB_bts (s : ByteArray) : mkB (bts s) = s := rfl
theorem bts_len (s : ByteArray) : (bts s).length = s.size := rfl
theorem bts_inj {a b : ByteArray} : bts a = bts b ↔ a = b := ⟨fun h => by rw [← mkB_bts a, ← mkB_bts b, h], fun h => by rw [h]⟩
theorem bts_nil_iff (s : ByteArray) : s = ⟨#[]⟩ ↔ bts s = [] := ⟨fun h => by subst h; rfl, fun h => bts_inj.1 (by rw [h]; rfl)⟩
theorem bts_extract (s : ByteArray) (a b : Nat) : bts (s.extract a b) = ((bts s).drop a).take (b - a) := by
 unfold bts
 rw [ByteArray.data_extract, Array.toList_extract, List.extract_eq_take_drop]
theorem extract_mkB (s : ByteArray) (a b : Nat) : s.extract a b = mkB (((bts s).drop a).take (b - a)) := by
 rw [← mkB_bts (s.extract a b), bts_extract]
theorem sidx_nat {s : ByteArray} {n : Nat} {b : UInt8} (h : (bts s)[n]? = some b) : sidx s (n : Int) = some (b.toNat : Int) := by
 obtain ⟨h1, h2⟩ := List.getElem?_eq_some_iff.1 h
 have h3 : n < s.size := h1
 unfold sidx
 rw [dif_pos ⟨by omega, by simpa using h3⟩]
 subst h2
 rfl
def segs : List UInt8 → List UInt8 → List (List UInt8)
 | cur, [] => [cur]
 | cur, b :: l => if b = 46 then cur :: segs [] l else segs (cur ++ [b]) l
def labels (s : ByteArray) : List ByteArray := if bts s = [] then [] else (segs [] (bts s)).map mkB
theorem segs_len : ∀ (l cur : List UInt8), (segs cur l).length ≤ l.length + 1
 | [], cur => by simp [segs]
 | b :: l, cur => by
  unfold segs
  split
  ·have := segs_len l []; simp; omega
  ·have := segs_len l (cur ++ [b]); simp; omega
theorem labels_len (s : ByteArray) : (labels s).length ≤ s.size + 1 := by
 unfold labels
 split
 ·simp
 ·have := segs_len (bts s) []
  rw [bts_len] at this
  simpa using this
theorem u8_eq46 (b : UInt8) : ((b.toNat : Int) = 46) ↔ b = 46 := by
 constructor
 ·intro h
  have : b.toNat = 46 := by omega
  exact UInt8.toNat_inj.1 this
 ·intro h; subst h; rfl
theorem s_Labels_l0_eq (s : ByteArray) (hs : s.size ≤ 1048576) (hne : s ≠ ⟨#[]⟩) : ∀ (k : Nat) (i f fl : Nat) (out : List ByteArray), s.size - i = k → f ≤ i → i ≤ s.size → out.length ≤ f → k + 1 < fl →
  s_Labels_l0 s fl out (f : Int) (i : Int) = some (out ++ (segs (((bts s).drop f).take (i - f)) ((bts s).drop i)).map mkB)
 | 0, i, f, fl, out, hk, hfi, hi, ho, hfl => by
  obtain ⟨fl, rfl⟩ : ∃ q, fl = q + 1 := ⟨fl - 1, by omega⟩
  obtain ⟨fl, rfl⟩ : ∃ q, fl = q + 1 := ⟨fl - 1, by omega⟩
  have hie : i = s.size := by omega
  rw [s_Labels_l0]
  have e1 : (bts s).drop i = [] := List.drop_eq_nil_of_le (by rw [bts_len]; omega)
  rw [e1]
  simp only [segs, List.map_cons, List.map_nil]
  have c1 : decide ((i : Int) ≤ (s.size : Int)) = true := by simpa using hi
  have c2 : (!decide (s = (⟨#[]⟩ : ByteArray))) = true := by simpa using hne
  rw [c1, c2, cond_true, s_Labels_j1, cond_true]
  have c3 : decide ((i : Int) = (s.size : Int)) = true := by simp [hie]
  rw [c3, cond_true, s_Labels_j2, cond_true, grd_pos (by omega), grd_pos (by simp; omega), grd_i, grd_i, s_Labels_l0]
  have c4 : decide ((i : Int) + 1 ≤ (s.size : Int)) = false := by simp; omega
  rw [c4, cond_false, s_Labels_j1, cond_false, extract_mkB]
  simp
 | k + 1, i, f, fl, out, hk, hfi, hi, ho, hfl => by
  obtain ⟨fl, rfl⟩ : ∃ q, fl = q + 1 := ⟨fl - 1, by omega⟩
  have hlt : i < (bts s).length := by rw [bts_len]; omega
  rw [s_Labels_l0]
  have c1 : decide ((i : Int) ≤ (s.size : Int)) = true := by simpa using hi
  have c2 : (!decide (s = (⟨#[]⟩ : ByteArray))) = true := by simpa using hne
  rw [c1, c2, cond_true, s_Labels_j1, cond_true]
  have c3 : decide ((i : Int) = (s.size : Int)) = false := by simp; omega
  have hb : (bts s)[i]? = some (bts s)[i] := List.getElem?_eq_getElem hlt
  rw [c3, cond_false, sidx_nat hb, bnd1_mk, List.drop_eq_getElem_cons hlt, segs]
  have e2 : ((i : Int) + 1) = ((i + 1 : Nat) : Int) := by omega
  by_cases c : (bts s)[i] = 46
  ·rw [if_pos c]
   have c5 : decide ((((bts s)[i]).toNat : Int) = 46) = true := by simpa using (u8_eq46 _).2 c
   rw [c5, s_Labels_j2, cond_true, grd_pos (by omega), grd_pos (by simp; omega), grd_i, grd_i, e2,
    s_Labels_l0_eq s hs hne k (i + 1) (i + 1) fl _ (by omega) (by omega) (by omega) (by simp; omega) (by omega), extract_mkB]
   simp
  ·rw [if_neg c]
   have c5 : decide ((((bts s)[i]).toNat : Int) = 46) = false := by
    have := fun h => c ((u8_eq46 _).1 h)
    simpa using this
   rw [c5, s_Labels_j2, cond_false, grd_i, e2, s_Labels_l0_eq s hs hne k (i + 1) f fl _ (by omega) (by omega) (by omega) ho (by omega)]
   have e3 : ((bts s).drop f).take (i + 1 - f) = ((bts s).drop f).take (i - f) ++ [(bts s)[i]] := by
    rw [show i + 1 - f = (i - f) + 1 by omega, List.take_add_one]
    congr 1
    rw [List.getElem?_drop, show f + (i - f) = i by omega, hb]
    rfl
   rw [e3]
theorem s_Labels_eq {s : ByteArray} (hs : s.size ≤ 1048576) : s_Labels s = some (labels s) := by
 unfold s_Labels
 by_cases hne : s = ⟨#[]⟩
 ·subst hne
  have : fuel0 = 4611686018427387903 + 1 := rfl
  rw [this, s_Labels_l0]
  rfl
 ·have h := s_Labels_l0_eq s hs hne s.size 0 0 fuel0 [] (by omega) (by omega) (by omega) (by simp) (by unfold fuel0; omega)
  have e : bts s ≠ [] := fun h => hne ((bts_nil_iff s).2 h)
  simpa [labels, e] using h
theorem indexByte_none : ∀ {l : List UInt8}, Lib.indexByte l 46 = -1 → ∀ cur, segs cur l = [cur ++ l]
 | [], _, cur => by simp [segs]
 | b :: l, h, cur => by
  unfold Lib.indexByte at h
  by_cases c : b = 46
  ·subst c; simp at h
  ·have hb : (b == (46 : UInt8)) = false := by simpa using c
   rw [hb] at h
   simp only [Bool.false_eq_true, if_false] at h
   by_cases c' : Lib.indexByte l 46 = -1
   ·rw [segs, if_neg c, indexByte_none c']; simp
   ·have h1 := Lib.indexByte_ge l 46
    rw [if_neg (by simpa using c')] at h
    omega
theorem indexByte_some : ∀ {l : List UInt8} {k : Nat}, Lib.indexByte l 46 = (k : Int) → k < l.length ∧ ∀ cur, segs cur l = (cur ++ l.take k) :: segs [] (l.drop (k + 1))
 | [], k, h => by simp [Lib.indexByte] at h
 | b :: l, k, h => by
  unfold Lib.indexByte at h
  by_cases c : b = 46
  ·subst c
   simp at h
   have : k = 0 := by omega
   subst this
   exact ⟨by simp, fun cur => by simp [segs]⟩
  ·have hb : (b == (46 : UInt8)) = false := by simpa using c
   rw [hb] at h
   simp only [Bool.false_eq_true, if_false] at h
   have h1 := Lib.indexByte_ge l 46
   by_cases c' : Lib.indexByte l 46 = -1
   ·rw [if_pos (by simpa using c')] at h; omega
   ·rw [if_neg (by simpa using c')] at h
    obtain ⟨q, rfl⟩ : ∃ q, k = q + 1 := ⟨k - 1, by omega⟩
    obtain ⟨h2, h3⟩ := indexByte_some (l := l) (k := q) (by omega)
    exact ⟨by simp; omega, fun cur => by rw [segs, if_neg c, h3]; simp⟩
theorem count_segs : ∀ (l cur : List UInt8), (segs cur l).length = Lib.countByte l 46 + 1
 | [], cur => by simp [segs, Lib.countByte]
 | b :: l, cur => by
  unfold segs
  by_cases c : b = 46
  ·subst c; rw [if_pos rfl, List.length_cons, count_segs l []]; simp [Lib.countByte]
  ·rw [if_neg c, count_segs l]; simp [Lib.countByte, c]
theorem dotB : (⟨#[46]⟩ : ByteArray).size = 1 := rfl
theorem dot_sidx : sidx (⟨#[46]⟩ : ByteArray) 0 = some 46 := rfl
theorem strings_Index_dot {s : ByteArray} : strings_Index s ⟨#[46]⟩ = some (if s = ⟨#[46]⟩ then 0 else Lib.indexByte (bts s) 46) := by
 unfold strings_Index internal_stringslite_Index
 rw [dotB]
 by_cases c : s = ⟨#[46]⟩
 ·subst c; simp [internal_stringslite_Index_j0]
 ·have c' : ¬ ((⟨#[46]⟩ : ByteArray) = s) := fun h => c h.symm
  simp [internal_stringslite_Index_j0, c, c', dotB, dot_sidx, internal_stringslite_IndexByte]
  rfl
theorem strings_Index_dot' {s : ByteArray} : strings_Index s ⟨#[46]⟩ = some (Lib.indexByte (bts s) 46) := by
 rw [strings_Index_dot]
 by_cases c : s = ⟨#[46]⟩
 ·subst c; rfl
 ·rw [if_neg c]
theorem segs_pos (cur l : List UInt8) : 1 ≤ (segs cur l).length := by rw [count_segs]; omega
theorem idx_cases (l : List UInt8) : Lib.indexByte l 46 = -1 ∨ ∃ k : Nat, Lib.indexByte l 46 = (k : Int) := by
 have h := Lib.indexByte_ge l 46
 rcases Int.lt_or_le (Lib.indexByte l 46) 0 with h1 | h1
 ·exact .inl (by omega)
 ·exact .inr ⟨(Lib.indexByte l 46).toNat, by omega⟩
theorem genSplit_j1_eq {r : ByteArray} {a : List ByteArray} {i : Nat} (hi : i < a.length) (ha : a.length ≤ 1099511627776) : strings_genSplit_j1 r a (i : Int) = some (a.take i ++ [r]) := by
 unfold strings_genSplit_j1
 rw [idx_nat, List.getElem?_eq_getElem hi, bnd1_mk, grd_i, grd_pos (by omega)]
 congr 1
 have e : ((i : Int) + 1).toNat - ((0 : Nat) : Int).toNat = i + 1 := by omega
 have e2 : (0 + ((0 : Nat) : Int).toNat) = 0 := by omega
 rw [e, e2, List.drop_zero, Int.toNat_natCast, List.take_add_one, List.take_set_of_le (Nat.le_refl i), List.getElem?_set_self hi]
 rfl
theorem genSplit_l2_eq (p0 : ByteArray) (j : Int) (n : Nat) (hj : (if (p0.size : Int) + 1 < j then (p0.size : Int) + 1 else j) - 1 = (n : Int)) : ∀ (k i fl : Nat) (r : ByteArray) (a : List ByteArray), n - i = k → i ≤ n → k < fl → a.length = n + 1 → a.length ≤ 1099511627776 → (segs [] (bts r)).length = n + 1 - i → r.size ≤ 1048576 →
  strings_genSplit_l2 p0 ⟨#[46]⟩ 0 j fl r a (i : Int) = some (a.take i ++ (segs [] (bts r)).map mkB)
 | 0, i, fl, r, a, hk, hi, hf, ha, ha', hs, hr => by
  obtain ⟨fl, rfl⟩ : ∃ q, fl = q + 1 := ⟨fl - 1, by omega⟩
  have hin : i = n := by omega
  rw [strings_genSplit_l2, hj]
  have c : decide ((i : Int) < (n : Int)) = false := by simp; omega
  rw [c, cond_false, genSplit_j1_eq (by omega) ha']
  rcases idx_cases (bts r) with h | ⟨q, h⟩
  ·rw [indexByte_none h]; rfl
  ·have h1 := (indexByte_some h).2 []
   have h2 := segs_pos [] ((bts r).drop (q + 1))
   rw [h1] at hs
   simp only [List.length_cons] at hs
   omega
 | k + 1, i, fl, r, a, hk, hi, hf, ha, ha', hs, hr => by
  obtain ⟨fl, rfl⟩ : ∃ q, fl = q + 1 := ⟨fl - 1, by omega⟩
  rw [strings_genSplit_l2, hj]
  have c : decide ((i : Int) < (n : Int)) = true := by simp; omega
  rw [c, cond_true, strings_Index_dot', bnd1_mk]
  rcases idx_cases (bts r) with h | ⟨q, h⟩
  ·rw [indexByte_none h] at hs
   simp at hs
   omega
  ·obtain ⟨h1, h2⟩ := indexByte_some h
   have h2 := h2 []
   rw [bts_len] at h1
   have hi' : i < a.length := by omega
   rw [h, dotB]
   have c' : decide ((q : Int) < 0) = false := by simp
   have e1 : ((i : Int) + 1) = ((i + 1 : Nat) : Int) := by omega
   rw [c', cond_false, grd_i, grd_pos (by omega), idx_nat, List.getElem?_eq_getElem hi', bnd1_mk, grd_i, grd_pos (by omega), grd_i, e1]
   have e2 : bts (r.extract ((q : Int) + ((1 : Nat) : Int)).toNat (r.size : Int).toNat) = (bts r).drop (q + 1) := by
    rw [bts_extract]
    have e3 : ((q : Int) + ((1 : Nat) : Int)).toNat = q + 1 := by omega
    rw [e3, List.take_of_length_le (by rw [List.length_drop, bts_len]; omega)]
   rw [h2, List.length_cons] at hs
   rw [genSplit_l2_eq p0 j n hj k (i + 1) fl _ _ (by omega) (by omega) (by omega) (by simp [ha]) (by simp [ha']) (by rw [e2]; omega) (by rw [ByteArray.size_extract]; omega), e2, h2]
   congr 1
   rw [Int.toNat_natCast, List.take_add_one, List.take_set_of_le (Nat.le_refl i), List.getElem?_set_self hi', extract_mkB]
   have e4 : ((q : Int) + 0).toNat - ((0 : Nat) : Int).toNat = q := by omega
   rw [e4]
   simp
theorem strings_Count_dot {s : ByteArray} : strings_Count s ⟨#[46]⟩ = some ((Lib.countByte (bts s) 46 : Nat) : Int) := by
 unfold strings_Count
 have c1 : decide (((⟨#[46]⟩ : ByteArray).size : Int) = 0) = false := by rw [dotB]; decide
 have c2 : decide (((⟨#[46]⟩ : ByteArray).size : Int) = 1) = true := by rw [dotB]; decide
 have h46 : (46 : Int).toNat.toUInt8 = 46 := by decide
 rw [c1, cond_false, c2, cond_true, dot_sidx, bnd1_mk, h46]
 rfl
theorem i_Labels_eq {s : ByteArray} (hs : s.size ≤ 1048576) : i_Labels s = some (labels s) := by
 unfold i_Labels
 by_cases hne : s = ⟨#[]⟩
 ·subst hne
  have e : bts (⟨#[]⟩ : ByteArray) = [] := rfl
  simp [labels, e]
 ·have e : bts s ≠ [] := fun h => hne ((bts_nil_iff s).2 h)
  have hne' : ¬ ((⟨#[46]⟩ : ByteArray) = ⟨#[]⟩) := by decide
  have hc := count_segs (bts s) []
  have hl := segs_len (bts s) []
  rw [bts_len] at hl
  have e0 := strings_Count_dot (s := s)
  have hjj : (if (s.size : Int) + 1 < ((Lib.countByte (bts s) 46 : Nat) : Int) + 1 then (s.size : Int) + 1 else ((Lib.countByte (bts s) 46 : Nat) : Int) + 1) = ((Lib.countByte (bts s) 46 : Nat) : Int) + 1 := by rw [if_neg (by omega)]
  have hloop := genSplit_l2_eq s (((Lib.countByte (bts s) 46 : Nat) : Int) + 1) (Lib.countByte (bts s) 46) (by rw [hjj]; omega) (Lib.countByte (bts s) 46) 0 fuel0 s (List.replicate (((Lib.countByte (bts s) 46 : Nat) : Int) + 1).toNat ⟨#[]⟩) (by omega) (by omega) (by unfold fuel0; omega) (by simp) (by simp; omega) (by omega) hs
  have g0 : decide ((-1 : Int) = 0) = false := by decide
  have g1 : decide ((⟨#[46]⟩ : ByteArray) = ⟨#[]⟩) = false := decide_eq_false hne'
  have g2 : decide ((-1 : Int) < 0) = true := by decide
  rw [decide_eq_false hne, cond_false, strings_Split, strings_genSplit, g0, g1, g2, cond_false, cond_false, cond_true, e0, bnd1_mk, grd_i, strings_genSplit_j0, hjj, grd_i, grd_pos (by omega), grd_i]
  rw [Int.natCast_zero] at hloop
  rw [hloop, bnd1_mk, bnd1_mk]
  unfold labels
  rw [if_neg e, List.take_zero, List.nil_append]
theorem idx_sub {α : Type} {l : List α} {n : Nat} (h : n ≤ l.length) : idx l ((l.length : Int) - (n : Int)) = l[l.length - n]? := by
 have e : (l.length : Int) - (n : Int) = ((l.length - n : Nat) : Int) := by omega
 rw [e, idx_nat]
def under (a b : ByteArray) : Bool := decide ((labels b).length ≤ (labels a).length) && decide ((labels a).drop ((labels a).length - (labels b).length) = labels b)
theorem slices_Equal_string_l0_eq : ∀ (t : List ByteArray) (pre q : List ByteArray), t.length = q.length → slices_Equal_string_l0 (pre ++ q) t pre.length = some (decide (t = q))
 | [], pre, q, h => by cases q with | nil => rfl | cons a b => simp at h
 | x :: t, pre, q, h => by
  cases q with
  | nil => simp at h
  | cons y q =>
   rw [slices_Equal_string_l0]
   have := slices_Equal_string_l0_eq t (pre ++ [y]) q (by simpa using h)
   simp only [idx_nat]
   simp only [List.length_append, List.length_singleton, List.append_assoc, List.singleton_append] at this
   by_cases c : x = y <;> simp [c, this]
theorem slices_Equal_string_eq {a b : List ByteArray} : slices_Equal_string a b = some (decide (a = b)) := by
 unfold slices_Equal_string
 by_cases c : a.length = b.length
 ·have := slices_Equal_string_l0_eq a [] b c
  simpa [c] using this
 ·have c' : a ≠ b := fun h => c (by rw [h])
  have c2 : ¬ ((a.length : Int) = (b.length : Int)) := by omega
  simp [c2, c']
theorem i_Under_eq {a b : ByteArray} (ha : a.size ≤ 1048576) (hb : b.size ≤ 1048576) : i_Under a b = some (under a b) := by
 unfold i_Under
 have la := labels_len a
 have lb := labels_len b
 rw [i_Labels_eq ha, i_Labels_eq hb, bnd1_mk, bnd1_mk]
 unfold under
 by_cases c : (labels b).length ≤ (labels a).length
 ·have c' : decide (((labels b).length : Int) ≤ ((labels a).length : Int)) = true := by simpa using c
  rw [c', cond_true, grd_i, grd_pos (by omega), slices_Equal_string_eq, bnd1_mk]
  have e1 : (((labels a).length : Int) - ((labels b).length : Int)).toNat = (labels a).length - (labels b).length := by omega
  rw [e1, List.take_of_length_le (by simp)]
  simp [c]
 ·have c' : decide (((labels b).length : Int) ≤ ((labels a).length : Int)) = false := by simp; omega
  rw [c', cond_false]
  simp [c]
theorem s_Under_l0_eq (x y : List ByteArray) (hx : x.length ≤ 2097152) (hl : y.length ≤ x.length) : ∀ (k i fl : Nat), y.length + 1 - i = k → 1 ≤ i → i ≤ y.length + 1 → k < fl → x.drop (x.length - (i - 1)) = y.drop (y.length - (i - 1)) →
  s_Under_l0 x y fl (i : Int) = some (decide (x.drop (x.length - y.length) = y))
 | 0, i, fl, hk, h1, hi, hf, hd => by
  obtain ⟨fl, rfl⟩ : ∃ q, fl = q + 1 := ⟨fl - 1, by omega⟩
  rw [s_Under_l0]
  have c : decide ((i : Int) ≤ (y.length : Int)) = false := by simp; omega
  have e : i - 1 = y.length := by omega
  rw [e, Nat.sub_self, List.drop_zero] at hd
  rw [c, cond_false, decide_eq_true hd]
 | k + 1, i, fl, hk, h1, hi, hf, hd => by
  obtain ⟨fl, rfl⟩ : ∃ q, fl = q + 1 := ⟨fl - 1, by omega⟩
  rw [s_Under_l0]
  have c : decide ((i : Int) ≤ (y.length : Int)) = true := by simp; omega
  have hx' : x.length - i < x.length := by omega
  have hy' : y.length - i < y.length := by omega
  rw [c, cond_true, grd_i, idx_sub (by omega), List.getElem?_eq_getElem hx', bnd1_mk, grd_i, idx_sub (by omega), List.getElem?_eq_getElem hy', bnd1_mk]
  have ex : x.drop (x.length - i) = x[x.length - i] :: x.drop (x.length - (i - 1)) := by
   rw [List.drop_eq_getElem_cons hx', show x.length - i + 1 = x.length - (i - 1) by omega]
  have ey : y.drop (y.length - i) = y[y.length - i] :: y.drop (y.length - (i - 1)) := by
   rw [List.drop_eq_getElem_cons hy', show y.length - i + 1 = y.length - (i - 1) by omega]
  by_cases c2 : x[x.length - i] = y[y.length - i]
  ·have e1 : ((i : Int) + 1) = ((i + 1 : Nat) : Int) := by omega
   rw [decide_eq_true c2, Bool.not_true, cond_false, grd_i, e1, s_Under_l0_eq x y hx hl k (i + 1) fl (by omega) (by omega) (by omega) (by omega) (by rw [Nat.add_sub_cancel, ex, ey, c2, hd])]
  ·rw [decide_eq_false c2, Bool.not_false, cond_true]
   have : ¬ (x.drop (x.length - y.length) = y) := fun h => c2 (by
    have h2 : (x.drop (x.length - y.length)).drop (y.length - i) = y.drop (y.length - i) := by rw [h]
    rw [List.drop_drop, show x.length - y.length + (y.length - i) = x.length - i by omega, ex, ey] at h2
    exact (List.cons.inj h2).1)
   rw [decide_eq_false this]
theorem s_Under_eq {a b : ByteArray} (ha : a.size ≤ 1048576) (hb : b.size ≤ 1048576) : s_Under a b = some (under a b) := by
 unfold s_Under
 have la := labels_len a
 have lb := labels_len b
 rw [s_Labels_eq ha, s_Labels_eq hb, bnd1_mk, bnd1_mk]
 unfold under
 by_cases c : (labels b).length ≤ (labels a).length
 ·have c' : decide (((labels a).length : Int) < ((labels b).length : Int)) = false := by simp; omega
  have := s_Under_l0_eq (labels a) (labels b) (by omega) c (labels b).length 1 fuel0 (by omega) (by omega) (by omega) (by unfold fuel0; omega) (by simp)
  rw [c', cond_false]
  rw [show ((1 : Nat) : Int) = 1 from rfl] at this
  rw [this]
  simp [c]
 ·have c' : decide (((labels a).length : Int) < ((labels b).length : Int)) = true := by simp; omega
  rw [c', cond_true]
  simp [c]
theorem slices_IndexFunc_Record_l0_eq {g : Rec → Option Bool} {p : Rec → Bool} : ∀ (l : List Rec) (i : Nat), (∀ r, r ∈ l → g r = some (p r)) → ∃ v, slices_IndexFunc_Record_l0 g l i = some v ∧ decide (0 ≤ v) = l.any p
 | [], i, _ => ⟨-1, rfl, rfl⟩
 | r :: l, i, h => by
  rw [slices_IndexFunc_Record_l0, h r (.head _), bnd1_mk]
  cases c : p r with
  | true => exact ⟨i, rfl, by simp [c]⟩
  | false =>
   obtain ⟨v, h1, h2⟩ := slices_IndexFunc_Record_l0_eq l (i + 1) fun q hq => h q (.tail _ hq)
   exact ⟨v, h1, by simp [c, h2]⟩
theorem slices_ContainsFunc_Record_eq {g : Rec → Option Bool} {p : Rec → Bool} {l : List Rec} (h : ∀ r, r ∈ l → g r = some (p r)) : slices_ContainsFunc_Record l g = some (l.any p) := by
 obtain ⟨v, h1, h2⟩ := slices_IndexFunc_Record_l0_eq l 0 h
 unfold slices_ContainsFunc_Record slices_IndexFunc_Record
 rw [h1, bnd1_mk, h2]
theorem i_Exists_eq {z : MZone} {s : ByteArray} (hz : smL z.l) (hs : s.size ≤ 1048576) : i_Exists z s = some (z.l.any fun r => under r.name s) := by
 unfold i_Exists
 rw [slices_ContainsFunc_Record_eq (p := fun r => under r.name s) fun r hr => by unfold i_Exists_1; rw [i_Under_eq (hz.2 r hr).1 hs]; rfl]
 rfl
theorem s_Exists_l0_eq {s : ByteArray} (hs : s.size ≤ 1048576) : ∀ (l : List Rec) (i : Nat), (∀ r, r ∈ l → r.sm) → s_Exists_l0 s l i = some (l.any fun r => under r.name s)
 | [], i, _ => rfl
 | r :: l, i, h => by
  rw [s_Exists_l0, s_Under_eq (h r (.head _)).1 hs, bnd1_mk, s_Exists_l0_eq hs l (i + 1) fun q hq => h q (.tail _ hq)]
  cases c : under r.name s <;> simp [c]
theorem s_Exists_eq {z : MZone} {s : ByteArray} (hz : smL z.l) (hs : s.size ≤ 1048576) : s_Exists z s = some (z.l.any fun r => under r.name s) := s_Exists_l0_eq hs _ _ hz.2
def hasS (s : ByteArray) (l : List ByteArray) : Bool := l.any fun x => decide (x = s)
theorem s_l9Has_l0_eq {s : ByteArray} : ∀ (l : List ByteArray) (i : Nat), s_l9Has_l0 s l i = some (hasS s l)
 | [], i => rfl
 | x :: l, i => by
  rw [s_l9Has_l0, s_l9Has_l0_eq l (i + 1)]
  by_cases c : x = s <;> simp [c, hasS]
theorem s_l9Has_eq {l : List ByteArray} {s : ByteArray} : s_l9Has l s = some (hasS s l) := s_l9Has_l0_eq _ _
theorem slices_Index_string_l0_eq {s : ByteArray} : ∀ (l : List ByteArray) (i : Nat), ∃ v, slices_Index_string_l0 s l i = some v ∧ decide (0 ≤ v) = hasS s l
 | [], i => ⟨-1, rfl, rfl⟩
 | x :: l, i => by
  rw [slices_Index_string_l0]
  by_cases c : s = x
  ·subst c; exact ⟨i, by simp, by simp [hasS]⟩
  ·obtain ⟨v, h1, h2⟩ := slices_Index_string_l0_eq (s := s) l (i + 1)
   have c' : ¬ (x = s) := fun h => c h.symm
   exact ⟨v, by simp [c, h1], by rw [h2]; simp [hasS, c']⟩
theorem slices_Contains_string_eq {l : List ByteArray} {s : ByteArray} : slices_Contains_string l s = some (hasS s l) := by
 obtain ⟨v, h1, h2⟩ := slices_Index_string_l0_eq (s := s) l 0
 unfold slices_Contains_string slices_Index_string
 rw [h1, bnd1_mk, h2]
def cutP (apex : ByteArray) (out : List ByteArray) (r : Rec) : Bool := decide (r.ty = 2) && (!decide (r.name = apex) && (under r.name apex && !hasS r.name out))
def cutsL (apex : ByteArray) : List Rec → List ByteArray → List ByteArray
 | [], out => out
 | r :: l, out => bif cutP apex out r then cutsL apex l (out ++ [r.name]) else cutsL apex l out
def cutsOf (z : MZone) : List ByteArray := cutsL z.apex z.l []
theorem cutsL_len (apex : ByteArray) : ∀ (l : List Rec) (out : List ByteArray), (cutsL apex l out).length ≤ out.length + l.length
 | [], out => Nat.le_refl _
 | r :: l, out => by
  unfold cutsL
  have h1 := cutsL_len apex l (out ++ [r.name])
  have h2 := cutsL_len apex l out
  cases cutP apex out r <;> simp at h1 h2 ⊢ <;> omega
theorem cutsL_mem (apex : ByteArray) : ∀ (l : List Rec) (out : List ByteArray) (x : ByteArray), x ∈ cutsL apex l out → x ∈ out ∨ ∃ r, r ∈ l ∧ r.name = x
 | [], out, x, h => .inl h
 | r :: l, out, x, h => by
  unfold cutsL at h
  cases c : cutP apex out r with
  | true =>
   rw [c, cond_true] at h
   rcases cutsL_mem apex l _ x h with h1 | ⟨q, h1, h2⟩
   ·rcases List.mem_append.1 h1 with h2 | h2
    ·exact .inl h2
    ·rw [List.mem_singleton] at h2; exact .inr ⟨r, .head _, h2.symm⟩
   ·exact .inr ⟨q, .tail _ h1, h2⟩
  | false =>
   rw [c, cond_false] at h
   rcases cutsL_mem apex l _ x h with h1 | ⟨q, h1, h2⟩
   ·exact .inl h1
   ·exact .inr ⟨q, .tail _ h1, h2⟩
theorem cutsOf_sm {z : MZone} (h : z.sm) : (cutsOf z).length ≤ 1048576 ∧ ∀ x, x ∈ cutsOf z → x.size ≤ 1048576 := by
 refine ⟨?_, fun x hx => ?_⟩
 ·have h1 := cutsL_len z.apex z.l []
  have h2 := h.2.1
  simp only [List.length_nil] at h1
  unfold cutsOf; omega
 ·rcases cutsL_mem z.apex z.l [] x hx with h1 | ⟨r, h1, rfl⟩
  ·cases h1
  ·exact (h.2.2 r h1).1
theorem i_CutsOf_l0_eq {z : MZone} (hz : z.apex.size ≤ 1048576) : ∀ (l : List Rec) (out : List ByteArray) (i : Nat), (∀ r, r ∈ l → r.sm) → out.length + l.length ≤ 1048576 → i_CutsOf_l0 z l out i = some (cutsL z.apex l out)
 | [], out, i, _, _ => rfl
 | r :: l, out, i, h, hl => by
  have hr := (h r (.head _)).1
  simp only [List.length_cons] at hl
  have h1 := i_CutsOf_l0_eq hz l (out ++ [r.name]) (i + 1) (fun q hq => h q (.tail _ hq)) (by simp; omega)
  have h2 := i_CutsOf_l0_eq hz l out (i + 1) (fun q hq => h q (.tail _ hq)) (by omega)
  rw [i_CutsOf_l0, cutsL, cutP]
  by_cases c1 : r.ty = 2 <;> by_cases c2 : r.name = z.apex <;> cases c3 : under r.name z.apex <;> cases c4 : hasS r.name out <;>
   simp [i_CutsOf_j1, c1, c2, h2, i_Under_eq hr hz, c3, slices_Contains_string_eq, c4] <;> first | done | (rw [grd_pos (by omega)]; exact h1) | simp_all [i_Under_eq hr hz, slices_Contains_string_eq]
theorem i_CutsOf_eq {z : MZone} (h : z.sm) : i_CutsOf z = some (cutsOf z) := i_CutsOf_l0_eq h.1 _ _ _ h.2.2 (by simpa using h.2.1)
theorem s_CutsOf_l0_eq {z : MZone} (hz : z.apex.size ≤ 1048576) : ∀ (l : List Rec) (out : List ByteArray) (i : Nat), (∀ r, r ∈ l → r.sm) → out.length + l.length ≤ 1048576 → s_CutsOf_l0 z l out i = some (cutsL z.apex l out)
 | [], out, i, _, _ => rfl
 | r :: l, out, i, h, hl => by
  have hr := (h r (.head _)).1
  simp only [List.length_cons] at hl
  have h1 := s_CutsOf_l0_eq hz l (out ++ [r.name]) (i + 1) (fun q hq => h q (.tail _ hq)) (by simp; omega)
  have h2 := s_CutsOf_l0_eq hz l out (i + 1) (fun q hq => h q (.tail _ hq)) (by omega)
  rw [s_CutsOf_l0, cutsL, cutP]
  by_cases c1 : r.ty = 2 <;> by_cases c2 : r.name = z.apex <;> cases c3 : under r.name z.apex <;> cases c4 : hasS r.name out <;>
   simp [s_CutsOf_j1, c1, c2, h2, s_Under_eq hr hz, c3, s_l9Has_eq, c4] <;> first | done | (rw [grd_pos (by omega)]; exact h1) | simp_all [s_Under_eq hr hz, s_l9Has_eq]
theorem s_CutsOf_eq {z : MZone} (h : z.sm) : s_CutsOf z = some (cutsOf z) := s_CutsOf_l0_eq h.1 _ _ _ h.2.2 (by simpa using h.2.1)
def cutOf (z : MZone) (s : ByteArray) : ByteArray × Bool := match (cutsOf z).find? (under s) with | some c => (c, true) | none => (⟨#[]⟩, false)
theorem i_CutOf_l0_eq {s : ByteArray} (hs : s.size ≤ 1048576) : ∀ (l : List ByteArray) (i : Nat), (∀ x, x ∈ l → x.size ≤ 1048576) → i_CutOf_l0 s l i = some (match l.find? (under s) with | some c => (c, true) | none => (⟨#[]⟩, false))
 | [], i, _ => rfl
 | x :: l, i, h => by
  rw [i_CutOf_l0, i_Under_eq hs (h x (.head _)), bnd1_mk, i_CutOf_l0_eq hs l (i + 1) fun y hy => h y (.tail _ hy)]
  cases c : under s x <;> simp [c]
theorem s_CutOf_l0_eq {s : ByteArray} (hs : s.size ≤ 1048576) : ∀ (l : List ByteArray) (i : Nat), (∀ x, x ∈ l → x.size ≤ 1048576) → s_CutOf_l0 s l i = some (match l.find? (under s) with | some c => (c, true) | none => (⟨#[]⟩, false))
 | [], i, _ => rfl
 | x :: l, i, h => by
  rw [s_CutOf_l0, s_Under_eq hs (h x (.head _)), bnd1_mk, s_CutOf_l0_eq hs l (i + 1) fun y hy => h y (.tail _ hy)]
  cases c : under s x <;> simp [c]
theorem i_CutOf_eq {z : MZone} {s : ByteArray} (h : z.sm) (hs : s.size ≤ 1048576) : i_CutOf z s = some (cutOf z s) := by
 unfold i_CutOf; rw [i_CutsOf_eq h, bnd1_mk, i_CutOf_l0_eq hs _ _ (cutsOf_sm h).2]; rfl
theorem s_CutOf_eq {z : MZone} {s : ByteArray} (h : z.sm) (hs : s.size ≤ 1048576) : s_CutOf z s = some (cutOf z s) := by
 unfold s_CutOf; rw [s_CutsOf_eq h, bnd1_mk, s_CutOf_l0_eq hs _ _ (cutsOf_sm h).2]; rfl
theorem set_app {α : Type} (pre t : List α) (x y : α) : (pre ++ x :: t).set pre.length y = pre ++ y :: t := by simp
theorem get_app {α : Type} (pre t : List α) (x : α) : (pre ++ x :: t)[pre.length]? = some x := by simp
theorem rec_ext {a b : Rec} : (decide (a.name = b.name) && (decide (a.ty = b.ty) && (decide (a.ttl = b.ttl) && (decide (a.n = b.n) && (decide (a.host = b.host) && (decide (a.text = b.text) && true)))))) = decide (a = b) := by
 cases a; cases b
 simp [Bool.and_assoc]
def zt (r : Rec) : Rec := ⟨r.name, r.ty, 0, r.n, r.host, r.text⟩
theorem zt_ext {a b : Rec} {x : Int} : (decide (a.name = b.name) && (decide (a.ty = b.ty) && (decide (x = x) && (decide (a.n = b.n) && (decide (a.host = b.host) && (decide (a.text = b.text) && true)))))) = decide (zt a = zt b) := by
 cases a; cases b
 simp [zt, Bool.and_assoc]
theorem slices_Clone_Record_eq {l : List Rec} (h : l.length ≤ 1099511627776) : slices_Clone_Record l = some l := by
 unfold slices_Clone_Record
 rw [List.nil_append, grd_pos h]
def setTtl (k : Int) (r : Rec) : Rec := ⟨r.name, r.ty, k, r.n, r.host, r.text⟩
theorem i_WithTtl_l0_eq (k : Int) : ∀ (t pre : List Rec), i_WithTtl_l0 k t (pre ++ t) pre.length = some (pre ++ t.map (setTtl k))
 | [], pre => by simp [i_WithTtl_l0]
 | r :: t, pre => by
  rw [i_WithTtl_l0, idx_nat, get_app, bnd1_mk, Int.toNat_natCast, set_app]
  have h := i_WithTtl_l0_eq k t (pre ++ [setTtl k r])
  simp only [List.append_assoc, List.singleton_append, List.length_append, List.length_singleton] at h
  unfold setTtl at h ⊢
  rw [h]
  simp
theorem i_WithTtl_eq {l : List Rec} {k : Int} (h : l.length ≤ 1099511627776) : i_WithTtl l k = some (l.map (setTtl k)) := by
 unfold i_WithTtl
 rw [slices_Clone_Record_eq h, bnd1_mk]
 exact i_WithTtl_l0_eq k l []
theorem slices_Equal_Record_l0_eq : ∀ (t : List Rec) (pre q : List Rec), t.length = q.length → slices_Equal_Record_l0 (pre ++ q) t pre.length = some (decide (t = q))
 | [], pre, q, h => by cases q with | nil => rfl | cons a b => simp at h
 | x :: t, pre, q, h => by
  cases q with
  | nil => simp at h
  | cons y q =>
   rw [slices_Equal_Record_l0, idx_nat, get_app, bnd1_mk, rec_ext]
   have := slices_Equal_Record_l0_eq t (pre ++ [y]) q (by simpa using h)
   simp only [List.length_append, List.length_singleton, List.append_assoc, List.singleton_append] at this
   by_cases c : x = y <;> simp [c, this]
theorem slices_Equal_Record_eq {a b : List Rec} : slices_Equal_Record a b = some (decide (a = b)) := by
 unfold slices_Equal_Record
 by_cases c : a.length = b.length
 ·have := slices_Equal_Record_l0_eq a [] b c
  simpa [c] using this
 ·have c' : a ≠ b := fun h => c (by rw [h])
  have c2 : ¬ ((a.length : Int) = (b.length : Int)) := by omega
  simp [c2, c']
theorem s_l13SameLinks_l0_eq : ∀ (t : List Rec) (pre q : List Rec), t.length = q.length → s_l13SameLinks_l0 (pre ++ q) t pre.length = some (decide (t.map zt = q.map zt))
 | [], pre, q, h => by cases q with | nil => rfl | cons a b => simp at h
 | x :: t, pre, q, h => by
  cases q with
  | nil => simp at h
  | cons y q =>
   rw [s_l13SameLinks_l0, idx_nat, get_app, bnd1_mk, zt_ext]
   have := s_l13SameLinks_l0_eq t (pre ++ [y]) q (by simpa using h)
   simp only [List.length_append, List.length_singleton, List.append_assoc, List.singleton_append] at this
   by_cases c : zt x = zt y <;> simp [c, this]
theorem s_l13SameLinks_eq {a b : List Rec} : s_l13SameLinks a b = some (decide (a.map zt = b.map zt)) := by
 unfold s_l13SameLinks
 by_cases c : a.length = b.length
 ·have := s_l13SameLinks_l0_eq a [] b c
  simpa [c] using this
 ·have c' : ¬ (a.map zt = b.map zt) := fun h => c (by have := congrArg List.length h; simpa using this)
  have c2 : ¬ ((a.length : Int) = (b.length : Int)) := by omega
  simp [c2, c']
def within (a b : List Rec) : Bool := a.all fun r => b.any fun x => decide (zt x = zt r)
theorem slices_Index_Record_l0_eq {r : Rec} : ∀ (l : List Rec) (i : Nat), ∃ v, slices_Index_Record_l0 r l i = some v ∧ decide (0 ≤ v) = l.any fun x => decide (r = x)
 | [], i => ⟨-1, rfl, rfl⟩
 | x :: l, i => by
  rw [slices_Index_Record_l0, rec_ext]
  by_cases c : r = x
  ·exact ⟨i, by simp [c], by simp [c]⟩
  ·obtain ⟨v, h1, h2⟩ := slices_Index_Record_l0_eq (r := r) l (i + 1)
   exact ⟨v, by simp [c, h1], by rw [h2]; simp [c]⟩
theorem slices_Contains_Record_eq {l : List Rec} {r : Rec} : slices_Contains_Record l r = some (l.any fun x => decide (r = x)) := by
 obtain ⟨v, h1, h2⟩ := slices_Index_Record_l0_eq (r := r) l 0
 unfold slices_Contains_Record slices_Index_Record
 rw [h1, bnd1_mk, h2]
theorem i_within_eq {a b : List Rec} (ha : a.length ≤ 1048576) (hb : b.length ≤ 1048576) : i_within a b = some (within a b) := by
 unfold i_within
 rw [i_WithTtl_eq (by omega), bnd1_mk, i_WithTtl_eq (by omega), bnd1_mk,
  slices_ContainsFunc_Record_eq (p := fun r => !(b.map (setTtl 0)).any fun x => decide (r = x)) fun r _ => by unfold i_within_1; rw [slices_Contains_Record_eq]; rfl]
 rw [bnd1_mk]
 congr 1
 unfold within
 rw [List.any_map, List.not_any_eq_all_not]
 congr 1
 funext r
 simp only [Function.comp, Bool.not_not, List.any_map]
 congr 1
 funext x
 exact decide_eq_decide.2 ⟨fun h => h.symm, fun h => h.symm⟩
theorem i_SameData_eq {a b : List Rec} (ha : a.length ≤ 1048576) (hb : b.length ≤ 1048576) : i_SameData a b = some (within a b && within b a) := by
 unfold i_SameData
 rw [i_within_eq ha hb, bnd1_mk, i_within_eq hb ha]
 cases within a b <;> rfl
theorem s_l9In_l0_eq {r : Rec} : ∀ (l : List Rec) (i : Nat), s_l9In_l0 r l i = some (l.any fun x => decide (zt x = zt r))
 | [], i => rfl
 | x :: l, i => by
  rw [s_l9In_l0, zt_ext, s_l9In_l0_eq l (i + 1)]
  by_cases c : zt x = zt r <;> simp [c]
theorem s_SameData_l2_eq {a : List Rec} : ∀ (l : List Rec) (i : Nat), s_SameData_l2 a l i = some (within l a)
 | [], i => rfl
 | r :: l, i => by
  rw [s_SameData_l2, s_l9In, s_l9In_l0_eq, bnd1_mk, s_SameData_l2_eq l (i + 1)]
  unfold within
  rw [List.all_cons]
  cases a.any fun x => decide (zt x = zt r) <;> rfl
theorem s_SameData_l1_eq {a b : List Rec} : ∀ (l : List Rec) (i : Nat), s_SameData_l1 a b l i = some (within l b && within b a)
 | [], i => by rw [s_SameData_l1, s_SameData_j0, s_SameData_l2_eq]; rfl
 | r :: l, i => by
  rw [s_SameData_l1, s_l9In, s_l9In_l0_eq, bnd1_mk, s_SameData_l1_eq l (i + 1)]
  conv => rhs; rw [within]
  rw [List.all_cons]
  cases b.any fun x => decide (zt x = zt r) <;> rfl
theorem s_SameData_eq {a b : List Rec} : s_SameData a b = some (within a b && within b a) := s_SameData_l1_eq a 0
def MFact.sm (x : MFact) : Prop := smL x.links ∧ smL x.l
def sameFact (x y : MFact) : Bool := decide (x.code = y.code) && ((x.fin == y.fin) && (decide (x.links.map zt = y.links.map zt) && (within x.l y.l && within y.l x.l)))
theorem s_SameFact_eq {x y : MFact} : s_SameFact x y = some (sameFact x y) := by
 unfold s_SameFact sameFact
 rw [s_l13SameLinks_eq, s_SameData_eq]
 cases decide (x.code = y.code) <;> cases (x.fin == y.fin) <;> simp
 cases decide (x.links.map zt = y.links.map zt) <;> rfl
theorem i_SameFact_eq {x y : MFact} (hx : x.sm) (hy : y.sm) : i_SameFact x y = some (sameFact x y) := by
 have h1 := hx.1.1
 have h2 := hy.1.1
 unfold i_SameFact sameFact i_SameRecords
 rw [i_WithTtl_eq (by omega), i_WithTtl_eq (by omega), i_SameData_eq hx.2.1 hy.2.1]
 simp only [bnd1_mk, slices_Equal_Record_eq]
 have e : (fun r => setTtl 0 r) = zt := rfl
 have e2 : setTtl 0 = zt := rfl
 rw [e2]
 cases decide (x.code = y.code) <;> cases (x.fin == y.fin) <;> simp
 cases decide (x.links.map zt = y.links.map zt) <;> rfl
def kindIn (z : MZone) (q : Quest) : Int :=
 bif !under q.name z.apex then 0 else (bif (cutOf z q.name).2 then 1 else (bif !decide (q.ty = 5) && decide (0 < ((setOf z.l q.name 5).length : Int)) then 2 else (bif decide (0 < ((setOf z.l q.name q.ty).length : Int)) then 3 else (bif z.l.any (fun r => under r.name q.name) then 4 else 5))))
theorem s_KindIn_eq {z : MZone} {q : Quest} (h : z.sm) (hq : q.sm) : s_KindIn z q = some (kindIn z q) := by
 unfold s_KindIn kindIn
 have h2 := s_CutOf_eq h hq
 generalize cutOf z q.name = x at h2
 obtain ⟨x, y⟩ := x
 rw [h2, bnd2_mk, s_Under_eq hq h.1, bnd1_mk, s_SetOf_eq h.2, bnd1_mk]
 unfold s_KindIn_j0
 rw [s_SetOf_eq h.2, bnd1_mk, s_Exists_eq h.2 hq, bnd1_mk]
 cases under q.name z.apex <;> cases y <;> cases decide (q.ty = 5) <;> cases decide (0 < ((setOf z.l q.name 5).length : Int)) <;> cases decide (0 < ((setOf z.l q.name q.ty).length : Int)) <;> cases z.l.any (fun r => under r.name q.name) <;> rfl
theorem i_KindIn_eq {z : MZone} {q : Quest} (h : z.sm) (hq : q.sm) : i_KindIn z q = some (kindIn z q) := by
 unfold i_KindIn kindIn
 have h2 := i_CutOf_eq h hq
 generalize cutOf z q.name = x at h2
 obtain ⟨x, y⟩ := x
 rw [h2, bnd2_mk, i_Under_eq hq h.1, bnd1_mk, i_SetOf_eq h.2, bnd1_mk]
 unfold i_KindIn_j0
 rw [i_SetOf_eq h.2, bnd1_mk, i_Exists_eq h.2 hq, bnd1_mk]
 cases under q.name z.apex <;> cases y <;> cases decide (q.ty = 5) <;> cases decide (0 < ((setOf z.l q.name 5).length : Int)) <;> cases decide (0 < ((setOf z.l q.name q.ty).length : Int)) <;> cases z.l.any (fun r => under r.name q.name) <;> rfl
def answerIn (z : MZone) (q : Quest) : List Rec := bif decide (kindIn z q = 2) then setOf z.l q.name 5 else (bif decide (kindIn z q = 3) then setOf z.l q.name q.ty else [])
theorem s_AnswerIn_eq {z : MZone} {q : Quest} (h : z.sm) (hq : q.sm) : s_AnswerIn z q = some (answerIn z q) := by
 unfold s_AnswerIn answerIn
 rw [s_KindIn_eq h hq, bnd1_mk, s_SetOf_eq h.2, bnd1_mk, s_SetOf_eq h.2, bnd1_mk]
 cases decide (kindIn z q = 2) <;> cases decide (kindIn z q = 3) <;> rfl
theorem i_AnswerIn_eq {z : MZone} {q : Quest} (h : z.sm) (hq : q.sm) : i_AnswerIn z q = some (answerIn z q) := by
 unfold i_AnswerIn answerIn
 rw [i_KindIn_eq h hq, bnd1_mk, i_SetOf_eq h.2, bnd1_mk, i_SetOf_eq h.2, bnd1_mk]
 cases decide (kindIn z q = 2) <;> cases decide (kindIn z q = 3) <;> rfl
theorem smL_nil : smL [] := ⟨Nat.zero_le _, fun r hr => by cases hr⟩
theorem answerIn_sm {z : MZone} (h : z.sm) (q : Quest) : smL (answerIn z q) := by
 unfold answerIn
 cases decide (kindIn z q = 2)
 ·cases decide (kindIn z q = 3)
  ·exact smL_nil
  ·exact setOf_sm h.2 _ _
 ·exact setOf_sm h.2 _ _
theorem s_l7Copy_eq {l : List Rec} (h : l.length ≤ 1099511627776) : s_l7Copy l = some l := by
 unfold s_l7Copy; rw [List.nil_append, grd_pos h]
theorem segs_mem : ∀ (l cur x : List UInt8), x ∈ segs cur l → x.length ≤ cur.length + l.length
 | [], cur, x, h => by
  unfold segs at h
  rw [List.mem_singleton] at h
  subst h; simp
 | b :: l, cur, x, h => by
  unfold segs at h
  split at h
  ·rcases List.mem_cons.1 h with h | h
   ·subst h; simp
   ·have := segs_mem l [] x h
    simp at this ⊢; omega
  ·have := segs_mem l (cur ++ [b]) x h
   simp at this ⊢; omega
theorem labels_mem {s x : ByteArray} (h : x ∈ labels s) : x.size ≤ s.size := by
 unfold labels at h
 split at h
 ·cases h
 ·obtain ⟨y, hy, e⟩ := List.mem_map.1 h
  have h1 := segs_mem _ _ _ hy
  subst e
  rw [← bts_len, bts_mkB, ← bts_len s]
  simpa using h1
def chP (n : Int) : Bool := (decide (97 ≤ n) && decide (n ≤ 122)) || ((decide (48 ≤ n) && decide (n ≤ 57)) || (decide (n = 45) || decide (n = 95)))
def labelP (s : ByteArray) : Bool := ((bts s).all fun b => chP b.toNat) && (decide (1 ≤ (s.size : Int)) && decide ((s.size : Int) ≤ 12))
theorem s_l1In_eq {a b c : Int} : s_l1In a b c = some (decide (b ≤ a) && decide (a ≤ c)) := by
 unfold s_l1In; cases decide (b ≤ a) <;> rfl
theorem s_l2Byte_eq {b : UInt8} : s_l2Byte (b.toNat : Int) = some (chP b.toNat) := by
 have h := b.toNat_lt
 unfold s_l2Byte chP
 rw [wrap_id (by omega), s_l1In_eq, bnd1_mk, s_l1In_eq, bnd1_mk]
 cases decide (97 ≤ (b.toNat : Int)) && decide ((b.toNat : Int) ≤ 122) <;> cases decide (48 ≤ (b.toNat : Int)) && decide ((b.toNat : Int) ≤ 57) <;> cases decide ((b.toNat : Int) = 45) <;> rfl
theorem drop_all {s : ByteArray} {i : Nat} {b : UInt8} {p : UInt8 → Bool} (h : (bts s)[i]? = some b) : ((bts s).drop i).all p = (p b && ((bts s).drop (i + 1)).all p) := by
 obtain ⟨h1, h2⟩ := List.getElem?_eq_some_iff.1 h
 rw [List.drop_eq_getElem_cons h1, List.all_cons, h2]
theorem bts_get {s : ByteArray} {i : Nat} (h : i < s.size) : ∃ b, (bts s)[i]? = some b := ⟨(bts s)[i]'h, List.getElem?_eq_getElem h⟩
theorem s_LabelOk_l1_eq {s : ByteArray} (hs : s.size ≤ 1048576) : ∀ (k i fl : Nat), s.size - i = k → i ≤ s.size → k < fl → s_LabelOk_l1 s fl (i : Int) = some (((bts s).drop i).all (fun b => chP b.toNat) && (decide (1 ≤ (s.size : Int)) && decide ((s.size : Int) ≤ 12)))
 | 0, i, fl, hk, hi, hf => by
  obtain ⟨fl, rfl⟩ : ∃ q, fl = q + 1 := ⟨fl - 1, by omega⟩
  have c : ¬ ((i : Int) < (s.size : Int)) := by omega
  have e : (bts s).drop i = [] := List.drop_eq_nil_of_le (by rw [bts_len]; omega)
  rw [s_LabelOk_l1, decide_eq_false c, cond_false, e]
  unfold s_LabelOk_j0
  rw [s_l1In_eq]; rfl
 | k + 1, i, fl, hk, hi, hf => by
  obtain ⟨fl, rfl⟩ : ∃ q, fl = q + 1 := ⟨fl - 1, by omega⟩
  have c : (i : Int) < (s.size : Int) := by omega
  obtain ⟨b, hb⟩ := bts_get (s := s) (i := i) (by omega)
  have h := s_LabelOk_l1_eq hs k (i + 1) fl (by omega) (by omega) (by omega)
  rw [s_LabelOk_l1, decide_eq_true c, cond_true, sidx_nat hb, bnd1_mk, s_l2Byte_eq, bnd1_mk, grd_i]
  have e : ((i : Int) + 1) = ((i + 1 : Nat) : Int) := by omega
  rw [e, h, drop_all hb]
  cases chP b.toNat <;> rfl
theorem fuel_lt {k : Nat} (h : k ≤ 1048576) : k < fuel0 := by unfold fuel0; omega
theorem s_LabelOk_eq {s : ByteArray} (hs : s.size ≤ 1048576) : s_LabelOk s = some (labelP s) := by
 have h := s_LabelOk_l1_eq hs s.size 0 fuel0 (by omega) (by omega) (fuel_lt hs)
 unfold s_LabelOk
 exact h
theorem i_LabelOk_l1_eq {s : ByteArray} (hs : s.size ≤ 1048576) : ∀ (k i fl : Nat), s.size - i = k → i ≤ s.size → k < fl → i_LabelOk_l1 s fl (i : Int) = some (((bts s).drop i).all (fun b => chP b.toNat) && (decide (1 ≤ (s.size : Int)) && decide ((s.size : Int) ≤ 12)))
 | 0, i, fl, hk, hi, hf => by
  obtain ⟨fl, rfl⟩ : ∃ q, fl = q + 1 := ⟨fl - 1, by omega⟩
  have c : ¬ ((i : Int) < (s.size : Int)) := by omega
  have e : (bts s).drop i = [] := List.drop_eq_nil_of_le (by rw [bts_len]; omega)
  rw [i_LabelOk_l1, decide_eq_false c, cond_false, e]
  unfold i_LabelOk_j0
  cases decide (1 ≤ (s.size : Int)) <;> rfl
 | k + 1, i, fl, hk, hi, hf => by
  obtain ⟨fl, rfl⟩ : ∃ q, fl = q + 1 := ⟨fl - 1, by omega⟩
  have c : (i : Int) < (s.size : Int) := by omega
  obtain ⟨b, hb⟩ := bts_get (s := s) (i := i) (by omega)
  have h := i_LabelOk_l1_eq hs k (i + 1) fl (by omega) (by omega) (by omega)
  rw [i_LabelOk_l1, decide_eq_true c, cond_true, sidx_nat hb, bnd1_mk]
  have e : ((i : Int) + 1) = ((i + 1 : Nat) : Int) := by omega
  have hj : ∀ y : Bool, i_LabelOk_j2 (i : Int) (i_LabelOk_l1 s fl) y = some (!y && (((bts s).drop (i + 1)).all (fun b => chP b.toNat) && (decide (1 ≤ (s.size : Int)) && decide ((s.size : Int) ≤ 12)))) := by
   intro y
   unfold i_LabelOk_j2
   rw [grd_i, e, h]
   cases y <;> rfl
  simp only [hj]
  rw [drop_all hb]
  have hc : chP b.toNat = !(((decide ((b.toNat : Int) < 97)) || decide (122 < (b.toNat : Int))) && ((decide ((b.toNat : Int) < 48) || decide (57 < (b.toNat : Int))) && ((!decide ((b.toNat : Int) = 45)) && !decide ((b.toNat : Int) = 95)))) := by
   have e1 : decide (97 ≤ (b.toNat : Int)) = !decide ((b.toNat : Int) < 97) := by by_cases c : (b.toNat : Int) < 97 <;> simp [c] <;> omega
   have e2 : decide ((b.toNat : Int) ≤ 122) = !decide (122 < (b.toNat : Int)) := by by_cases c : 122 < (b.toNat : Int) <;> simp [c] <;> omega
   have e3 : decide (48 ≤ (b.toNat : Int)) = !decide ((b.toNat : Int) < 48) := by by_cases c : (b.toNat : Int) < 48 <;> simp [c] <;> omega
   have e4 : decide ((b.toNat : Int) ≤ 57) = !decide (57 < (b.toNat : Int)) := by by_cases c : 57 < (b.toNat : Int) <;> simp [c] <;> omega
   unfold chP
   rw [e1, e2, e3, e4]
   cases decide ((b.toNat : Int) < 97) <;> cases decide (122 < (b.toNat : Int)) <;> cases decide ((b.toNat : Int) < 48) <;> cases decide (57 < (b.toNat : Int)) <;> cases decide ((b.toNat : Int) = 45) <;> cases decide ((b.toNat : Int) = 95) <;> rfl
  rw [hc]
  rw [Bool.and_assoc]
  generalize (((bts s).drop (i + 1)).all (fun b => chP b.toNat) && (decide (1 ≤ (s.size : Int)) && decide ((s.size : Int) ≤ 12))) = R
  cases decide ((b.toNat : Int) < 97) <;> cases decide (122 < (b.toNat : Int)) <;> cases decide ((b.toNat : Int) < 48) <;> cases decide (57 < (b.toNat : Int)) <;> cases decide ((b.toNat : Int) = 45) <;> cases decide ((b.toNat : Int) = 95) <;> rfl
theorem i_LabelOk_eq {s : ByteArray} (hs : s.size ≤ 1048576) : i_LabelOk s = some (labelP s) := by
 have h := i_LabelOk_l1_eq hs s.size 0 fuel0 (by omega) (by omega) (fuel_lt hs)
 unfold i_LabelOk
 exact h
def nameP (s : ByteArray) : Bool := (labels s).all labelP && (decide ((s.size : Int) ≤ 50) && decide (((labels s).length : Int) ≤ 6))
theorem s_NameOk_l1_eq {s : ByteArray} : ∀ (l : List ByteArray) (i : Nat), (∀ x, x ∈ l → x.size ≤ 1048576) → s_NameOk_l1 s (labels s) l i = some (l.all labelP && (decide ((s.size : Int) ≤ 50) && decide (((labels s).length : Int) ≤ 6)))
 | [], i, _ => by
  rw [s_NameOk_l1]; unfold s_NameOk_j0
  cases decide ((s.size : Int) ≤ 50) <;> rfl
 | x :: l, i, h => by
  rw [s_NameOk_l1, s_LabelOk_eq (h x (.head _)), bnd1_mk, s_NameOk_l1_eq l (i + 1) fun y hy => h y (.tail _ hy), List.all_cons]
  cases labelP x <;> rfl
theorem s_NameOk_eq {s : ByteArray} (hs : s.size ≤ 1048576) : s_NameOk s = some (nameP s) := by
 unfold s_NameOk
 rw [s_Labels_eq hs, bnd1_mk, s_NameOk_l1_eq _ _ fun x hx => Nat.le_trans (labels_mem hx) hs]; rfl
theorem slices_IndexFunc_string_l0_eq {g : ByteArray → Option Bool} {p : ByteArray → Bool} : ∀ (l : List ByteArray) (i : Nat), (∀ r, r ∈ l → g r = some (p r)) → ∃ v, slices_IndexFunc_string_l0 g l i = some v ∧ decide (0 ≤ v) = l.any p
 | [], i, _ => ⟨-1, rfl, rfl⟩
 | r :: l, i, h => by
  rw [slices_IndexFunc_string_l0, h r (.head _), bnd1_mk]
  cases c : p r with
  | true => exact ⟨i, rfl, by simp [c]⟩
  | false =>
   obtain ⟨v, h1, h2⟩ := slices_IndexFunc_string_l0_eq l (i + 1) fun q hq => h q (.tail _ hq)
   exact ⟨v, h1, by simp [c, h2]⟩
theorem slices_ContainsFunc_string_eq {g : ByteArray → Option Bool} {p : ByteArray → Bool} {l : List ByteArray} (h : ∀ r, r ∈ l → g r = some (p r)) : slices_ContainsFunc_string l g = some (l.any p) := by
 obtain ⟨v, h1, h2⟩ := slices_IndexFunc_string_l0_eq l 0 h
 unfold slices_ContainsFunc_string slices_IndexFunc_string
 rw [h1, bnd1_mk, h2]
theorem any_not_all {α : Type} (p : α → Bool) : ∀ l : List α, (!l.any fun x => !p x) = l.all p
 | [] => rfl
 | x :: l => by rw [List.any_cons, List.all_cons, ← any_not_all p l]; cases p x <;> simp
theorem i_NameOk_eq {s : ByteArray} (hs : s.size ≤ 1048576) : i_NameOk s = some (nameP s) := by
 unfold i_NameOk nameP
 rw [i_Labels_eq hs, bnd1_mk, slices_ContainsFunc_string_eq (p := fun x => !labelP x) fun r hr => by unfold i_NameOk_1; rw [i_LabelOk_eq (Nat.le_trans (labels_mem hr) hs)]; rfl, bnd1_mk, any_not_all]
 cases decide ((s.size : Int) ≤ 50) <;> cases decide (((labels s).length : Int) ≤ 6) <;> cases (labels s).all labelP <;> rfl
theorem textTail {s : ByteArray} {i : Nat} (h : ¬ ((i : Int) < (s.size : Int))) : (bts s).drop i = [] := List.drop_eq_nil_of_le (by rw [bts_len]; omega)
def txP (n : Int) : Bool := decide (33 ≤ n) && decide (n ≤ 126)
def textP (s : ByteArray) : Bool := ((bts s).all fun b => txP b.toNat) && decide ((s.size : Int) ≤ 12)
theorem s_l5Text_l1_eq {s : ByteArray} (hs : s.size ≤ 1048576) : ∀ (k i fl : Nat), s.size - i = k → i ≤ s.size → k < fl → s_l5Text_l1 s fl (i : Int) = some (((bts s).drop i).all (fun b => txP b.toNat) && decide ((s.size : Int) ≤ 12))
 | 0, i, fl, hk, hi, hf => by
  obtain ⟨fl, rfl⟩ : ∃ q, fl = q + 1 := ⟨fl - 1, by omega⟩
  have c : ¬ ((i : Int) < (s.size : Int)) := by omega
  rw [s_l5Text_l1, decide_eq_false c, cond_false, textTail c]
  rfl
 | k + 1, i, fl, hk, hi, hf => by
  obtain ⟨fl, rfl⟩ : ∃ q, fl = q + 1 := ⟨fl - 1, by omega⟩
  have c : (i : Int) < (s.size : Int) := by omega
  obtain ⟨b, hb⟩ := bts_get (s := s) (i := i) (by omega)
  have hl := b.toNat_lt
  have h := s_l5Text_l1_eq hs k (i + 1) fl (by omega) (by omega) (by omega)
  have e : ((i : Int) + 1) = ((i + 1 : Nat) : Int) := by omega
  rw [s_l5Text_l1, decide_eq_true c, cond_true, sidx_nat hb, bnd1_mk, wrap_id (by omega), s_l1In_eq, bnd1_mk, grd_i, e, h, drop_all hb, Bool.and_assoc]
  unfold txP
  cases decide (33 ≤ (b.toNat : Int)) && decide ((b.toNat : Int) ≤ 126) <;> rfl
theorem s_l5Text_eq {s : ByteArray} (hs : s.size ≤ 1048576) : s_l5Text s = some (textP s) := by
 have h := s_l5Text_l1_eq hs s.size 0 fuel0 (by omega) (by omega) (fuel_lt hs)
 unfold s_l5Text
 exact h
theorem i_isText_l1_eq {s : ByteArray} (hs : s.size ≤ 1048576) : ∀ (k i fl : Nat), s.size - i = k → i ≤ s.size → k < fl → i_isText_l1 s fl (i : Int) = some (((bts s).drop i).all (fun b => txP b.toNat) && decide ((s.size : Int) ≤ 12))
 | 0, i, fl, hk, hi, hf => by
  obtain ⟨fl, rfl⟩ : ∃ q, fl = q + 1 := ⟨fl - 1, by omega⟩
  have c : ¬ ((i : Int) < (s.size : Int)) := by omega
  rw [i_isText_l1, decide_eq_false c, cond_false, textTail c]
  rfl
 | k + 1, i, fl, hk, hi, hf => by
  obtain ⟨fl, rfl⟩ : ∃ q, fl = q + 1 := ⟨fl - 1, by omega⟩
  have c : (i : Int) < (s.size : Int) := by omega
  obtain ⟨b, hb⟩ := bts_get (s := s) (i := i) (by omega)
  have h := i_isText_l1_eq hs k (i + 1) fl (by omega) (by omega) (by omega)
  have e : ((i : Int) + 1) = ((i + 1 : Nat) : Int) := by omega
  have hj : ∀ y : Bool, i_isText_j2 (i : Int) (i_isText_l1 s fl) y = some (!y && (((bts s).drop (i + 1)).all (fun b => txP b.toNat) && decide ((s.size : Int) ≤ 12))) := by
   intro y
   unfold i_isText_j2
   rw [grd_i, e, h]
   cases y <;> rfl
  rw [i_isText_l1, decide_eq_true c, cond_true, sidx_nat hb, bnd1_mk, bnd1_mk, hj, hj, drop_all hb, Bool.and_assoc]
  have e1 : decide (33 ≤ (b.toNat : Int)) = !decide ((b.toNat : Int) < 33) := by by_cases c : (b.toNat : Int) < 33 <;> simp [c] <;> omega
  have e2 : decide ((b.toNat : Int) ≤ 126) = !decide (126 < (b.toNat : Int)) := by by_cases c : 126 < (b.toNat : Int) <;> simp [c] <;> omega
  unfold txP
  rw [e1, e2]
  generalize (((bts s).drop (i + 1)).all (fun b => decide (33 ≤ (b.toNat : Int)) && decide ((b.toNat : Int) ≤ 126)) && decide ((s.size : Int) ≤ 12)) = R
  cases decide ((b.toNat : Int) < 33) <;> cases decide (126 < (b.toNat : Int)) <;> rfl
theorem i_isText_eq {s : ByteArray} (hs : s.size ≤ 1048576) : i_isText s = some (textP s) := by
 have h := i_isText_l1_eq hs s.size 0 fuel0 (by omega) (by omega) (fuel_lt hs)
 unfold i_isText
 exact h
def inP (a b c : Int) : Bool := decide (b ≤ a) && decide (a ≤ c)
theorem i_isTtl_eq {a : Int} : i_isTtl a = some (inP a 0 100000) := by
 unfold i_isTtl inP; cases decide (0 ≤ a) <;> rfl
theorem i_isFour_eq {a : Int} : i_isFour a = some (inP a 0 2147483647) := by
 unfold i_isFour inP; cases decide (0 ≤ a) <;> rfl
def nilP (s : ByteArray) : Bool := decide (s = (⟨#[]⟩ : ByteArray))
def recP (r : Rec) : Bool :=
 nameP r.name && (inP r.ttl 0 100000 && (bif decide (r.ty = 1) then inP r.n 0 2147483647 && (nilP r.host && nilP r.text) else (bif decide (r.ty = 2) || decide (r.ty = 5) then decide (r.n = 0) && (nameP r.host && nilP r.text)
  else (bif decide (r.ty = 6) then inP r.n 0 100000 && (nameP r.host && nilP r.text) else decide (r.ty = 16) && (decide (r.n = 0) && (nilP r.host && textP r.text))))))
theorem s_RecordOk_eq {r : Rec} (h : r.sm) : s_RecordOk r = some (recP r) := by
 obtain ⟨h1, h2, h3⟩ := h
 unfold s_RecordOk s_RecordOk_j0 s_RecordOk_j1 recP nilP
 rw [s_NameOk_eq h1, bnd1_mk, s_l1In_eq, bnd1_mk, s_l1In_eq, bnd1_mk, s_l1In_eq, bnd1_mk, s_NameOk_eq h2, bnd1_mk, s_l5Text_eq h3, bnd1_mk]
 unfold inP
 generalize (decide (0 ≤ r.ttl) && decide (r.ttl ≤ 100000)) = a
 generalize (decide (0 ≤ r.n) && decide (r.n ≤ 2147483647)) = b
 generalize (decide (0 ≤ r.n) && decide (r.n ≤ 100000)) = d
 cases nameP r.name <;> cases a <;> cases decide (r.ty = 1) <;> cases decide (r.ty = 2) <;> cases decide (r.ty = 5) <;> cases decide (r.ty = 6) <;> cases decide (r.ty = 16) <;> try rfl
 all_goals (cases b <;> cases d <;> cases decide (r.n = 0) <;> cases nameP r.host <;> cases decide (r.host = (⟨#[]⟩ : ByteArray)) <;> rfl)
theorem i_RecordOk_eq {r : Rec} (h : r.sm) : i_RecordOk r = some (recP r) := by
 obtain ⟨h1, h2, h3⟩ := h
 unfold i_RecordOk i_RecordOk_j0 i_RecordOk_j1 recP nilP
 rw [i_NameOk_eq h1, bnd1_mk, i_isTtl_eq, bnd1_mk, i_isFour_eq, bnd1_mk, i_isTtl_eq, bnd1_mk, i_NameOk_eq h2, bnd1_mk, i_isText_eq h3, bnd1_mk]
 generalize inP r.ttl 0 100000 = a
 generalize inP r.n 0 2147483647 = b
 generalize inP r.n 0 100000 = d
 cases nameP r.name <;> cases a <;> cases decide (r.ty = 1) <;> cases decide (r.ty = 2) <;> cases decide (r.ty = 5) <;> cases decide (r.ty = 6) <;> cases decide (r.ty = 16) <;> try rfl
 all_goals (cases b <;> cases d <;> cases decide (r.n = 0) <;> cases nameP r.host <;> cases decide (r.host = (⟨#[]⟩ : ByteArray)) <;> rfl)
def Cur.inv (c : Cur) : Prop := 0 ≤ c.i ∧ c.b.length ≤ 1048576
theorem iand_255 (x : Int) : 0 ≤ iand .i64 x 255 ∧ iand .i64 x 255 ≤ 255 := by
 unfold iand
 have h : (BitVec.ofInt (IntKind.i64).bits x &&& BitVec.ofInt (IntKind.i64).bits 255).toNat ≤ 255 := by
  rw [BitVec.toNat_and]; exact Nat.le_trans Nat.and_le_right (by decide)
 generalize (BitVec.ofInt (IntKind.i64).bits x &&& BitVec.ofInt (IntKind.i64).bits 255).toNat = n at h
 rw [wrap_id (by omega)]; omega
theorem idx_ok {α : Type} {l : List α} {i : Int} (h0 : 0 ≤ i) (h1 : i < l.length) : ∃ x, idx l i = some x ∧ x ∈ l := by
 have h2 : i.toNat < l.length := by omega
 exact ⟨l[i.toNat], by unfold idx; rw [if_pos h0, List.getElem?_eq_getElem h2], List.getElem_mem h2⟩
theorem s_l1Byte_p {c : Cur} (h : c.inv) : ∃ x d, s_l1Byte c = some (x, d) ∧ d.inv ∧ 0 ≤ x ∧ x ≤ 255 := by
 obtain ⟨h1, h2⟩ := h
 unfold s_l1Byte
 by_cases p : c.i < (c.b.length : Int)
 ·obtain ⟨y, hy, -⟩ := idx_ok h1 p
  rw [decide_eq_true p, cond_true, hy, bnd1_mk]
  exact ⟨_, _, rfl, ⟨by show 0 ≤ IntKind.i64.wrap (c.i + 1); rw [wrap_id (by omega)]; omega, h2⟩, (iand_255 _).1, (iand_255 _).2⟩
 ·rw [decide_eq_false p, cond_false]
  exact ⟨_, _, rfl, ⟨h1, h2⟩, (iand_255 _).1, (iand_255 _).2⟩
theorem s_l1Below_p {c : Cur} {n : Int} (h : c.inv) (h1 : 0 < n) (h2 : n ≤ 256) : ∃ x d, s_l1Below c n = some (x, d) ∧ d.inv ∧ 0 ≤ x ∧ x < n := by
 obtain ⟨x, d, e, hd, hx, hy⟩ := s_l1Byte_p h
 have c1 : ¬ (n ≤ 0) := by omega
 unfold s_l1Below
 rw [decide_eq_false c1, cond_false, decide_eq_true h2, cond_true, e, bnd2_mk, grd_pos (by omega)]
 exact ⟨_, _, rfl, hd, Int.tmod_nonneg n hx, Int.tmod_lt_of_pos x h1⟩
theorem s_l1Once_p {c : Cur} {n : Int} (h : c.inv) (h1 : 0 < n) (h2 : n ≤ 256) : ∃ x d, s_l1Once c n = some (x, d) ∧ d.inv := by
 obtain ⟨x, d, e, hd, -, -⟩ := s_l1Below_p h h1 h2
 unfold s_l1Once
 rw [e, bnd2_mk]
 exact ⟨_, _, rfl, hd⟩
theorem s_l1Str_p {c : Cur} {l : List ByteArray} (h : c.inv) (h1 : 0 < l.length) (h2 : l.length ≤ 256) : ∃ x d, s_l1Str c l = some (x, d) ∧ d.inv ∧ x ∈ l := by
 obtain ⟨x, d, e, hd, hx, hy⟩ := s_l1Below_p (n := (l.length : Int)) h (by omega) (by omega)
 obtain ⟨y, e2, hm⟩ := idx_ok hx hy
 unfold s_l1Str
 rw [e, bnd2_mk, e2, bnd1_mk]
 exact ⟨_, _, rfl, hd, hm⟩
theorem s_l1Int_p {c : Cur} {l : List Int} (h : c.inv) (h1 : 0 < l.length) (h2 : l.length ≤ 256) : ∃ x d, s_l1Int c l = some (x, d) ∧ d.inv ∧ x ∈ l := by
 obtain ⟨x, d, e, hd, hx, hy⟩ := s_l1Below_p (n := (l.length : Int)) h (by omega) (by omega)
 obtain ⟨y, e2, hm⟩ := idx_ok hx hy
 unfold s_l1Int
 rw [e, bnd2_mk, e2, bnd1_mk]
 exact ⟨_, _, rfl, hd, hm⟩
theorem small_of {l : List ByteArray} {x : ByteArray} (h : (l.all fun y => Nat.ble y.size 1048576) = true) (hx : x ∈ l) : x.size ≤ 1048576 := Nat.le_of_ble_eq_true (List.all_eq_true.1 h x hx)
theorem s_l3Name_p {c : Cur} (h : c.inv) : ∃ x d, s_l3Name c = some (x, d) ∧ d.inv ∧ x.size ≤ 1048576 := by
 unfold s_l3Name
 refine (fun {l : List ByteArray} (h1 : 0 < l.length) (h2 : l.length ≤ 256) (h3 : (l.all fun y => Nat.ble y.size 1048576) = true) => ?_ : ∀ {l : List ByteArray}, 0 < l.length → l.length ≤ 256 → (l.all fun y => Nat.ble y.size 1048576) = true → ∃ x d, bnd2 (s_l1Str c l) (fun x1 x2 => some (x1, x2)) = some (x, d) ∧ d.inv ∧ x.size ≤ 1048576) (by decide) (by decide) rfl
 obtain ⟨x, d, e, hd, hm⟩ := s_l1Str_p h h1 h2
 rw [e, bnd2_mk]
 exact ⟨_, _, rfl, hd, small_of h3 hm⟩
theorem s_l5Type_p {c : Cur} (h : c.inv) : ∃ x d, s_l5Type c = some (x, d) ∧ d.inv ∧ x ∈ [1, 1, 1, 2, 2, 5, 6, 16] := by
 obtain ⟨x, d, e, hd, hm⟩ := s_l1Int_p (l := [1, 1, 1, 2, 2, 5, 6, 16]) h (by decide) (by decide)
 unfold s_l5Type
 rw [e, bnd2_mk]
 exact ⟨_, _, rfl, hd, hm⟩
theorem size_nil : (⟨#[]⟩ : ByteArray).size ≤ 1048576 := by decide
theorem s_l5Draw_j0_p {x : ByteArray} {k t : Int} {c : Cur} {b : Bool} (h : c.inv) (hx : x.size ≤ 1048576) : ∃ r d, s_l5Draw_j0 x k t c b = some (r, d) ∧ d.inv ∧ r.sm := by
 unfold s_l5Draw_j0
 obtain ⟨y, d, e, hd, hy⟩ := s_l3Name_p h
 obtain ⟨z, d2, e2, hd2, -⟩ := s_l1Int_p (l := [0, 5, 60]) hd (by decide) (by decide)
 obtain ⟨w, d3, e3, hd3, hw⟩ := s_l1Str_p (l := [(⟨#[]⟩ : ByteArray), (⟨#[104, 105]⟩ : ByteArray), (⟨#[116, 119, 101, 108, 118, 101, 98, 121, 116, 101, 115, 33]⟩ : ByteArray)]) h (by decide) (by decide)
 have hw2 := small_of rfl hw
 cases b with
 | true => rw [cond_true, e, bnd2_mk]; exact ⟨_, _, rfl, hd, hx, hy, size_nil⟩
 | false =>
  rw [cond_false]
  cases decide (k = 6) with
  | true => rw [cond_true, e, bnd2_mk, e2, bnd2_mk]; exact ⟨_, _, rfl, hd2, hx, hy, size_nil⟩
  | false =>
   rw [cond_false]
   cases decide (k = 16) with
   | true => rw [cond_true, e3, bnd2_mk]; exact ⟨_, _, rfl, hd3, hx, size_nil, hw2⟩
   | false => exact ⟨_, _, rfl, h, hx, size_nil, size_nil⟩
theorem s_l5Draw_p {c : Cur} (h : c.inv) : ∃ r d, s_l5Draw c = some (r, d) ∧ d.inv ∧ r.sm := by
 unfold s_l5Draw
 obtain ⟨x, d1, e1, h1, hx⟩ := s_l3Name_p h
 obtain ⟨k, d2, e2, h2, -⟩ := s_l5Type_p h1
 obtain ⟨t, d3, e3, h3, -⟩ := s_l1Int_p (l := [0, 1, 5, 60, 300, 100000]) h2 (by decide) (by decide)
 obtain ⟨n, d4, e4, h4, hn, hn2⟩ := s_l1Below_p (n := 9) h3 (by omega) (by omega)
 rw [e1, bnd2_mk, e2, bnd2_mk, e3, bnd2_mk]
 cases decide (k = 1) with
 | true => rw [cond_true, e4, bnd2_mk, grd_i]; exact ⟨_, _, rfl, h4, hx, size_nil, size_nil⟩
 | false =>
  rw [cond_false]
  cases decide (k = 2) with
  | true => rw [cond_true]; exact s_l5Draw_j0_p h3 hx
  | false => rw [cond_false]; exact s_l5Draw_j0_p h3 hx
theorem s_l9Near_l0_p : ∀ (k fl : Nat) (c : Cur) (l : List Rec), c.inv → k < fl → (∀ r, r ∈ l → r.sm) → l.length + k ≤ 1000 → ∃ m d, s_l9Near_l0 fl c.b c.i c.h l (k : Int) = some (m, d) ∧ d.inv ∧ m.length ≤ l.length + k ∧ ∀ r, r ∈ m → r.sm
 | 0, fl, c, l, h, hf, hr, hl => by
  obtain ⟨fl, rfl⟩ : ∃ q, fl = q + 1 := ⟨fl - 1, by omega⟩
  rw [s_l9Near_l0]
  exact ⟨l, c, rfl, h, Nat.le_refl _, hr⟩
 | k + 1, fl, c, l, h, hf, hr, hl => by
  obtain ⟨fl, rfl⟩ : ∃ q, fl = q + 1 := ⟨fl - 1, by omega⟩
  have c1 : (0 : Int) < ((k + 1 : Nat) : Int) := by omega
  obtain ⟨r, d1, e1, h1, hr1⟩ := s_l5Draw_p h
  obtain ⟨y, d2, e2, h2, hy⟩ := s_l1Str_p (l := [(⟨#[101, 120, 46, 99, 111, 109]⟩ : ByteArray), (⟨#[110, 115, 46, 101, 120, 46, 99, 111, 109]⟩ : ByteArray)]) h1 (by decide) (by decide)
  have hy2 := small_of rfl hy
  obtain ⟨o, d3, e3, h3⟩ := s_l1Once_p (n := 2) h2 (by omega) (by omega)
  obtain ⟨n, d4, e4, h4, -, -⟩ := s_l1Below_p (n := 3) h3 (by omega) (by omega)
  have hj : ∀ (q : Cur) (a b : Int) (s t : ByteArray), q.inv → s.size ≤ 1048576 → t.size ≤ 1048576 → ∃ m d, s_l9Near_j1 l ((k + 1 : Nat) : Int) r y (s_l9Near_l0 fl) q.b q.i q.h a b s t = some (m, d) ∧ d.inv ∧ m.length ≤ l.length + (k + 1) ∧ ∀ r, r ∈ m → r.sm := by
   intro q a b s t hq hs ht
   have e : ((k + 1 : Nat) : Int) - 1 = (k : Int) := by omega
   unfold s_l9Near_j1
   rw [grd_pos (by rw [List.length_append, List.length_singleton]; omega), grd_i, e]
   obtain ⟨m, d, g1, g2, g3, g4⟩ := s_l9Near_l0_p k fl q (l ++ [⟨y, a, r.ttl, b, s, t⟩]) hq (by omega) (fun x hx => by
    rcases List.mem_append.1 hx with hx | hx
    ·exact hr x hx
    ·rw [List.mem_singleton] at hx; rw [hx]; exact ⟨hy2, hs, ht⟩) (by rw [List.length_append, List.length_singleton]; omega)
   exact ⟨m, d, g1, g2, by rw [List.length_append, List.length_singleton] at g3; omega, g4⟩
  rw [s_l9Near_l0, decide_eq_true c1, cond_true, e1, bnd2_mk, e2, bnd2_mk, e3, bnd2_mk]
  cases o with
  | true => rw [cond_true, e4, bnd2_mk]; exact hj d4 _ _ _ _ h4 size_nil size_nil
  | false => rw [cond_false]; exact hj d3 _ _ _ _ h3 hr1.2.1 hr1.2.2
theorem s_l1New_l1_p {b : List Int} (hb : b.length ≤ 1048576) : ∀ (k fl i : Nat) (h : Int), b.length - i = k → i ≤ b.length → k < fl → ∃ c, s_l1New_l1 b fl h (i : Int) = some c ∧ c.inv
 | 0, fl, i, h, hk, hi, hf => by
  obtain ⟨fl, rfl⟩ : ∃ q, fl = q + 1 := ⟨fl - 1, by omega⟩
  have c1 : ¬ ((i : Int) < (b.length : Int)) := by omega
  rw [s_l1New_l1, decide_eq_false c1, cond_false]
  exact ⟨_, rfl, Int.le_refl 0, hb⟩
 | k + 1, fl, i, h, hk, hi, hf => by
  obtain ⟨fl, rfl⟩ : ∃ q, fl = q + 1 := ⟨fl - 1, by omega⟩
  have c1 : (i : Int) < (b.length : Int) := by omega
  rw [s_l1New_l1, decide_eq_true c1, cond_true]
  unfold s_l1New_j2
  cases decide ((i : Int) < 4000) with
  | false => exact ⟨_, rfl, Int.le_refl 0, hb⟩
  | true =>
   obtain ⟨x, hx, -⟩ := idx_ok (l := b) (i := (i : Int)) (by omega) c1
   have e : IntKind.i64.wrap ((i : Int) + 1) = ((i + 1 : Nat) : Int) := by rw [wrap_id (by omega)]; omega
   rw [cond_true, hx, bnd1_mk, e]
   exact s_l1New_l1_p hb k fl (i + 1) _ (by omega) (by omega) (by omega)
theorem s_l1New_p {b : List Int} (hb : b.length ≤ 1048576) : ∃ c, s_l1New b = some c ∧ c.inv := s_l1New_l1_p hb b.length fuel0 0 _ (by omega) (by omega) (fuel_lt hb)
theorem s_WithTtl_l0_eq (k : Int) : ∀ (t pre : List Rec) (fl : Nat), t.length < fl → pre.length + t.length ≤ 1048576 → s_WithTtl_l0 k fl (pre ++ t) (pre.length : Int) = some (pre ++ t.map (setTtl k))
 | [], pre, fl, hf, hl => by
  obtain ⟨fl, rfl⟩ : ∃ q, fl = q + 1 := ⟨fl - 1, by simp at hf; omega⟩
  have c : ¬ ((pre.length : Int) < ((pre ++ ([] : List Rec)).length : Int)) := by simp
  rw [s_WithTtl_l0, decide_eq_false c, cond_false]
  simp
 | r :: t, pre, fl, hf, hl => by
  simp only [List.length_cons] at hf hl
  obtain ⟨fl, rfl⟩ : ∃ q, fl = q + 1 := ⟨fl - 1, by omega⟩
  have c : (pre.length : Int) < ((pre ++ r :: t).length : Int) := by simp; omega
  have e : (pre.length : Int) + 1 = ((pre ++ [setTtl k r]).length : Int) := by simp
  have h := s_WithTtl_l0_eq k t (pre ++ [setTtl k r]) fl (by omega) (by simp; omega)
  rw [s_WithTtl_l0, decide_eq_true c, cond_true, idx_nat, get_app, bnd1_mk, grd_i, Int.toNat_natCast, set_app, e]
  simp only [List.append_assoc, List.singleton_append, List.map_cons] at h ⊢
  exact h
theorem s_WithTtl_eq {l : List Rec} {k : Int} (h : l.length ≤ 1048576) : s_WithTtl l k = some (l.map (setTtl k)) := by
 unfold s_WithTtl
 rw [s_l7Copy_eq (by omega), bnd1_mk]
 exact s_WithTtl_l0_eq k l [] fuel0 (fuel_lt h) (by simpa using h)
theorem w_sameRecs_l0_self : ∀ (t pre : List Rec), w_sameRecs_l0 (pre ++ t) t pre.length = some true
 | [], pre => rfl
 | r :: t, pre => by
  have h := w_sameRecs_l0_self t (pre ++ [r])
  rw [w_sameRecs_l0, idx_nat, get_app, bnd1_mk, rec_ext, decide_eq_true rfl, Bool.not_true, cond_false]
  simpa using h
theorem w_sameRecs_self {l : List Rec} : w_sameRecs l l = some true := by
 unfold w_sameRecs
 rw [decide_eq_true rfl, Bool.not_true, cond_false]
 exact w_sameRecs_l0_self l []
theorem wrap8 {x : Int} (h : 0 ≤ x ∧ x < 256) : IntKind.u8.wrap x = x := by
 simp [IntKind.wrap, IntKind.signed, IntKind.bits]; omega
def MPost.sm (p : MPost) : Prop := p.apex.size ≤ 1048576
def MForest.sm (f : MForest) : Prop := (f.zones.length ≤ 1048576 ∧ ∀ z, z ∈ f.zones → z.sm) ∧ (f.posts.length ≤ 1048576 ∧ ∀ p, p ∈ f.posts → p.sm)
def deeper (zs : List MZone) (b : Int) (a : ByteArray) : Bool := decide (b < 0) || (match idx zs b with | some z => decide (((labels z.apex).length : Int) < ((labels a).length : Int)) | none => false)
def deepL (zs : List MZone) (ok : ByteArray → Bool) : List MZone → Int → Nat → Int
 | [], b, _ => b
 | z :: l, b, i => deepL zs ok l (bif ok z.apex && deeper zs b z.apex then (i : Int) else b) (i + 1)
def zoneOf (f : MForest) (s : ByteArray) : Int := deepL f.zones (fun a => under s a) f.zones (-1) 0
theorem i_PartsOf_eq {s : ByteArray} (h : s.size ≤ 1048576) : i_PartsOf s = some ((labels s).length : Int) := by unfold i_PartsOf; rw [i_Labels_eq h]; rfl
theorem s_PartsOf_eq {s : ByteArray} (h : s.size ≤ 1048576) : s_PartsOf s = some ((labels s).length : Int) := by unfold s_PartsOf; rw [s_Labels_eq h]; rfl
theorem idx_at {α : Type} {l : List α} {b : Int} (h0 : 0 ≤ b) (h : b < (l.length : Int)) : ∃ x, idx l b = some x ∧ x ∈ l := by
 have : b.toNat < l.length := by omega
 exact ⟨l[b.toNat], by simp [idx, h0, this], List.getElem_mem _⟩
theorem s_ZoneOf_l0_eq {f : MForest} {s : ByteArray} (hf : f.sm) (hs : s.size ≤ 1048576) : ∀ (l : List MZone) (b : Int) (i : Nat), (∀ z, z ∈ l → z.sm) → b < (f.zones.length : Int) → i + l.length ≤ f.zones.length →
  s_ZoneOf_l0 f s l b i = some (deepL f.zones (fun a => under s a) l b i)
 | [], b, i, _, _, _ => rfl
 | z :: l, b, i, hz, hb, hi => by
  have hz0 : z.apex.size ≤ 1048576 := (hz z (.head _)).1
  simp only [List.length_cons] at hi
  have ih : ∀ b', b' < (f.zones.length : Int) → s_ZoneOf_l0 f s l b' (i + 1) = some (deepL f.zones (fun a => under s a) l b' (i + 1)) := fun b' hb' => s_ZoneOf_l0_eq hf hs l b' (i + 1) (fun q hq => hz q (.tail _ hq)) hb' (by omega)
  rw [s_ZoneOf_l0, s_Under_eq hs hz0, bnd1_mk, deepL]
  have hj : ∀ c : Bool, s_ZoneOf_j1 b i (s_ZoneOf_l0 f s l) c = some (deepL f.zones (fun a => under s a) l (bif c then (i : Int) else b) (i + 1)) := fun c => by
   unfold s_ZoneOf_j1; cases c
   ·exact ih b hb
   ·exact ih i (by omega)
  cases under s z.apex with
  | false => exact hj false
  | true =>
   simp only [cond_true, Bool.true_and]
   by_cases c : b < 0
   ·simp only [c, decide_true, cond_true, deeper, Bool.true_or]; exact hj true
   ·obtain ⟨y, hy, hm⟩ := idx_at (l := f.zones) (b := b) (by omega) hb
    simp only [c, decide_false, cond_false, deeper, Bool.false_or, hy, s_PartsOf_eq hz0, s_PartsOf_eq (hf.1.2 y hm).1, bnd1_mk]
    exact hj _
theorem i_deepest_l0_eq {f : MForest} {s : ByteArray} {g : ByteArray → Option Bool} {q : ByteArray → Bool} (hf : f.sm) (hs : s.size ≤ 1048576) (hg : ∀ a, a.size ≤ 1048576 → g a = some (q a)) : ∀ (l : List MZone) (b : Int) (i : Nat), (∀ z, z ∈ l → z.sm) → b < (f.zones.length : Int) → i + l.length ≤ f.zones.length →
  i_deepest_l0 f s g l b i = some (deepL f.zones (fun a => under s a && q a) l b i)
 | [], b, i, _, _, _ => rfl
 | z :: l, b, i, hz, hb, hi => by
  have hz0 : z.apex.size ≤ 1048576 := (hz z (.head _)).1
  simp only [List.length_cons] at hi
  have ih : ∀ b', b' < (f.zones.length : Int) → i_deepest_l0 f s g l b' (i + 1) = some (deepL f.zones (fun a => under s a && q a) l b' (i + 1)) := fun b' hb' => i_deepest_l0_eq hf hs hg l b' (i + 1) (fun q hq => hz q (.tail _ hq)) hb' (by omega)
  rw [i_deepest_l0, i_Under_eq hs hz0, bnd1_mk, deepL]
  have hj : ∀ c : Bool, i_deepest_j1 b i (i_deepest_l0 f s g l) c = some (deepL f.zones (fun a => under s a && q a) l (bif c then (i : Int) else b) (i + 1)) := fun c => by
   unfold i_deepest_j1; cases c
   ·exact ih b hb
   ·exact ih i (by omega)
  cases under s z.apex with
  | false => exact hj false
  | true =>
   simp only [cond_true, Bool.true_and]
   rw [hg _ hz0, bnd1_mk]
   cases q z.apex with
   | false => exact hj false
   | true =>
    simp only [cond_true, Bool.true_and]
    by_cases c : b < 0
    ·simp only [c, decide_true, cond_true, deeper, Bool.true_or]; exact hj true
    ·obtain ⟨y, hy, hm⟩ := idx_at (l := f.zones) (b := b) (by omega) hb
     simp only [c, decide_false, cond_false, deeper, Bool.false_or, hy, i_PartsOf_eq hz0, i_PartsOf_eq (hf.1.2 y hm).1, bnd1_mk]
     exact hj _
theorem s_ZoneOf_eq {f : MForest} {s : ByteArray} (hf : f.sm) (hs : s.size ≤ 1048576) : s_ZoneOf f s = some (zoneOf f s) :=
 s_ZoneOf_l0_eq hf hs _ _ _ hf.1.2 (by omega) (by omega)
theorem i_ZoneOf_eq {f : MForest} {s : ByteArray} (hf : f.sm) (hs : s.size ≤ 1048576) : i_ZoneOf f s = some (zoneOf f s) := by
 unfold i_ZoneOf i_deepest
 have := i_deepest_l0_eq (g := fun a0 => i_ZoneOf_1 a0) (q := fun _ => true) hf hs (fun _ _ => rfl) f.zones (-1) 0 hf.1.2 (by omega) (by omega)
 simp only [Bool.and_true] at this
 rw [this]; rfl
theorem deepL_lt {zs : List MZone} {ok : ByteArray → Bool} : ∀ (l : List MZone) (b : Int) (i : Nat), b < (zs.length : Int) → i + l.length ≤ zs.length → deepL zs ok l b i < (zs.length : Int)
 | [], b, i, hb, _ => hb
 | z :: l, b, i, hb, hi => by
  simp only [List.length_cons] at hi
  unfold deepL
  refine deepL_lt l _ _ ?_ (by omega)
  cases (ok z.apex && deeper zs b z.apex)
  ·exact hb
  ·show (i : Int) < _; omega
theorem zoneOf_lt (f : MForest) (s : ByteArray) : zoneOf f s < (f.zones.length : Int) ∨ f.zones = [] := by
 cases h : f.zones with
 | nil => exact .inr rfl
 | cons z l => left; rw [← h]; exact deepL_lt _ _ _ (by rw [h]; simp; omega) (by omega)
def zoneNo (f : MForest) (k : Int) : Option MZone := if k < 0 then none else idx f.zones k
theorem zoneNo_cases {f : MForest} {k : Int} (h : k < (f.zones.length : Int)) : (k < 0 ∧ zoneNo f k = none) ∨ (¬ k < 0 ∧ ∃ z, idx f.zones k = some z ∧ zoneNo f k = some z ∧ z ∈ f.zones) := by
 by_cases c : k < 0
 ·exact .inl ⟨c, by simp [zoneNo, c]⟩
 ·obtain ⟨z, h1, h2⟩ := idx_at (l := f.zones) (b := k) (by omega) h
  exact .inr ⟨c, z, h1, by simp [zoneNo, c, h1], h2⟩
theorem zoneOf_at (f : MForest) (s : ByteArray) : (zoneOf f s < 0 ∧ zoneNo f (zoneOf f s) = none) ∨ (¬ zoneOf f s < 0 ∧ ∃ z, idx f.zones (zoneOf f s) = some z ∧ zoneNo f (zoneOf f s) = some z ∧ z ∈ f.zones) := by
 rcases zoneOf_lt f s with h | h
 ·exact zoneNo_cases h
 ·left; unfold zoneOf; rw [h]; exact ⟨by show (-1 : Int) < 0; decide, rfl⟩
def linkAt (f : MForest) (q : Quest) : Int × List Rec := match zoneNo f (zoneOf f q.name) with | some z => (kindIn z q, answerIn z q) | none => (0, [])
theorem s_LinkAt_eq {f : MForest} {q : Quest} (hf : f.sm) (hq : q.sm) : s_LinkAt f q = some (linkAt f q) := by
 unfold s_LinkAt linkAt
 rw [s_ZoneOf_eq hf hq, bnd1_mk]
 rcases zoneOf_at f q.name with ⟨h1, h2⟩ | ⟨h1, z, h2, h3, h4⟩
 ·rw [h2]; simp [h1]
 ·rw [h3, h2]; simp [h1, s_KindIn_eq (hf.1.2 z h4) hq, s_AnswerIn_eq (hf.1.2 z h4) hq]
theorem i_LinkAt_eq {f : MForest} {q : Quest} (hf : f.sm) (hq : q.sm) : i_LinkAt f q = some (linkAt f q) := by
 unfold i_LinkAt linkAt
 rw [i_ZoneOf_eq hf hq, bnd1_mk]
 rcases zoneOf_at f q.name with ⟨h1, h2⟩ | ⟨h1, z, h2, h3, h4⟩
 ·rw [h2]; simp [h1]
 ·rw [h3, h2]; simp [h1, i_KindIn_eq (hf.1.2 z h4) hq, i_AnswerIn_eq (hf.1.2 z h4) hq]
theorem answerIn_two {z : MZone} {q : Quest} (h : kindIn z q = 2) : ∃ x t, answerIn z q = x :: t := by
 have h1 : answerIn z q = setOf z.l q.name 5 := by unfold answerIn; rw [h]; rfl
 rw [h1]
 cases hs : setOf z.l q.name 5 with
 | cons x t => exact ⟨x, t, rfl⟩
 | nil =>
  exfalso
  unfold kindIn at h
  rw [hs] at h
  generalize under q.name z.apex = a at h
  generalize (cutOf z q.name).2 = b at h
  generalize decide (q.ty = 5) = c at h
  generalize decide (0 < ((setOf z.l q.name q.ty).length : Int)) = d at h
  generalize z.l.any (fun r => under r.name q.name) = e at h
  cases a <;> cases b <;> cases c <;> cases d <;> cases e <;> revert h <;> decide
theorem linkAt_sm {f : MForest} (hf : f.sm) (q : Quest) : smL (linkAt f q).2 := by
 unfold linkAt
 rcases zoneOf_at f q.name with ⟨h1, h2⟩ | ⟨h1, z, h2, h3, h4⟩
 ·rw [h2]; exact smL_nil
 ·rw [h3]; exact answerIn_sm (hf.1.2 z h4) q
theorem linkAt_two {f : MForest} {q : Quest} (h : (linkAt f q).1 = 2) : ∃ x t, (linkAt f q).2 = x :: t := by
 unfold linkAt at h ⊢
 rcases zoneOf_at f q.name with ⟨h1, h2⟩ | ⟨h1, z, h2, h3, h4⟩
 ·rw [h2] at h; exact absurd (show (0 : Int) = 2 from h) (by decide)
 ·rw [h3] at h ⊢; exact answerIn_two h
def noFact : MFact := ⟨0, [], [], false⟩
def factL (f : MForest) (ty : Int) : Nat → ByteArray → List Rec → MFact
 | 0, _, _ => noFact
 | n + 1, s, ls => match linkAt f ⟨s, ty⟩ with
  | (k, l) => if k = 2 then (if ls.length = 6 then noFact else (match l with | x :: _ => factL f ty n x.host (ls ++ [x]) | [] => noFact))
   else if k = 3 then ⟨0, ls, l, true⟩ else if k = 4 then ⟨0, ls, [], true⟩ else if k = 5 then ⟨3, ls, [], true⟩ else noFact
def factOf (f : MForest) (q : Quest) : MFact := factL f q.ty 7 q.name []
theorem s_FactOf_l0_eq {f : MForest} {q : Quest} (hf : f.sm) : ∀ (n fl : Nat) (s : ByteArray) (ls : List Rec), ls.length + (n + 1) = 7 → n < fl → s.size ≤ 1048576 → s_FactOf_l0 f q fl s ls = some (factL f q.ty (n + 1) s ls)
 | n, 0, s, ls, _, h, _ => by omega
 | n, fl + 1, s, ls, hn, hfl, hs => by
  have h2 := s_LinkAt_eq (q := ⟨s, q.ty⟩) hf hs
  have h3 := @linkAt_two f ⟨s, q.ty⟩
  have h4 := linkAt_sm hf ⟨s, q.ty⟩
  rw [s_FactOf_l0, factL]
  generalize linkAt f ⟨s, q.ty⟩ = x at h2 h3 h4
  obtain ⟨k, l⟩ := x
  rw [h2, bnd2_mk]
  unfold s_FactOf_j1
  by_cases c : k = 2
  ·obtain ⟨x, t, rfl⟩ := h3 c
   by_cases c6 : ls.length = 6
   ·simp [c, c6, noFact]
   ·have c7 : ¬ ((ls.length : Int) = 6) := by omega
    obtain ⟨m, rfl⟩ : ∃ m, n = m + 1 := ⟨n - 1, by omega⟩
    have ih := s_FactOf_l0_eq (q := q) hf m fl x.host (ls ++ [x]) (by simp; omega) (by omega) (h4.2 x (.head _)).2.1
    simp only [c, c6, c7, decide_true, decide_false, cond_true, cond_false, idx_zero, List.getElem?_cons_zero, bnd1_mk, if_true, if_false, Bool.not_true, show ¬ ((2 : Int) = 3) from by decide, show ¬ ((2 : Int) = 4) from by decide, show ¬ ((2 : Int) = 5) from by decide]
    rw [grd_pos (by simp; omega), ih]
  ·by_cases c3 : k = 3
   ·simp [c3]
   ·by_cases c4 : k = 4
    ·simp [c4]
    ·by_cases c5 : k = 5 <;> simp [c, c3, c4, c5, noFact]
theorem s_FactOf_eq {f : MForest} {q : Quest} (hf : f.sm) (hq : q.sm) : s_FactOf f q = some (factOf f q) := s_FactOf_l0_eq hf 6 fuel0 _ _ rfl (by unfold fuel0; omega) hq
def bl (a b : ByteArray) : Bool := Op.bytesLess (bts a) (bts b)
theorem bl_eq {a b : ByteArray} : Op.bytesLess a.toList b.toList = bl a b := by unfold bl bts; rw [ByteArray.toList_eq, ByteArray.toList_eq]
def lexN : List ByteArray → List ByteArray → Bool
 | _, [] => false
 | [], _ :: _ => true
 | x :: xs, y :: ys => if x = y then lexN xs ys else bl x y
def lessN (a b : ByteArray) : Bool := lexN (labels a).reverse (labels b).reverse
theorem s_LessName_l1_eq (x y : List ByteArray) (hx : x.length ≤ 2097152) (hy : y.length ≤ 2097152) (fl : Nat) : ∀ (k i : Nat), x.length - i = k → i ≤ x.length → i ≤ y.length → k + 1 < fl → s_LessName_l1 x y fl ((i : Int) + 1) = some (lexN (x.reverse.drop i) (y.reverse.drop i)) := by
 induction fl with
 | zero => intro k i _ _ _ h; omega
 | succ fl IH =>
  intro k i hk hi hi' hfl
  rw [s_LessName_l1]
  unfold s_LessName_j2 s_LessName_j0
  by_cases c1 : i = x.length
  ·have e1 : x.reverse.drop i = [] := List.drop_eq_nil_of_le (by simp; omega)
   have h1 : ¬ ((i : Int) + 1 ≤ (x.length : Int)) := by omega
   simp only [h1, decide_false, cond_false, e1]
   by_cases c2 : i = y.length
   ·have e2 : y.reverse.drop i = [] := List.drop_eq_nil_of_le (by simp; omega)
    have h2 : ¬ ((x.length : Int) < (y.length : Int)) := by omega
    simp [e2, lexN, h2]
   ·have hlt : i < y.reverse.length := by simp; omega
    rw [List.drop_eq_getElem_cons hlt]
    have h2 : ((x.length : Int) < (y.length : Int)) := by omega
    simp [lexN, h2]
  ·have h1 : ((i : Int) + 1 ≤ (x.length : Int)) := by omega
   have hltx : i < x.reverse.length := by simp; omega
   simp only [h1, decide_true, cond_true]
   by_cases c2 : i = y.length
   ·have h2 : ¬ ((i : Int) + 1 ≤ (y.length : Int)) := by omega
    have e2 : y.reverse.drop i = [] := List.drop_eq_nil_of_le (by simp; omega)
    have h3 : ¬ ((x.length : Int) < (y.length : Int)) := by omega
    have e3 : ∀ l : List ByteArray, lexN l [] = false := fun l => by cases l <;> rfl
    simp [h2, e2, h3, e3]
   ·have h2 : ((i : Int) + 1 ≤ (y.length : Int)) := by omega
    have hlty : i < y.reverse.length := by simp; omega
    have ix : idx x ((x.length : Int) - ((i : Int) + 1)) = some x.reverse[i] := by
     rw [show (x.length : Int) - ((i : Int) + 1) = (x.length : Int) - ((i + 1 : Nat) : Int) by omega, idx_sub (by omega), List.getElem?_eq_getElem (by omega), List.getElem_reverse]
     congr 1; congr 1; omega
    have iy : idx y ((y.length : Int) - ((i : Int) + 1)) = some y.reverse[i] := by
     rw [show (y.length : Int) - ((i : Int) + 1) = (y.length : Int) - ((i + 1 : Nat) : Int) by omega, idx_sub (by omega), List.getElem?_eq_getElem (by omega), List.getElem_reverse]
     congr 1; congr 1; omega
    simp only [h2, decide_true, cond_true, ix, iy, bnd1_mk]
    rw [grd_i, grd_i, List.drop_eq_getElem_cons hltx, List.drop_eq_getElem_cons hlty, lexN, bl_eq]
    by_cases ce : x.reverse[i] = y.reverse[i]
    ·have ih := IH (k - 1) (i + 1) (by omega) (by omega) (by omega) (by omega)
     have e9 : (i : Int) + 1 + 1 = ((i + 1 : Nat) : Int) + 1 := by omega
     have g9 : i64 ((i : Int) + 1 + 1) := by constructor <;> omega
     simp only [ce, decide_true, Bool.not_true, cond_false, if_true, grd_pos g9]
     rw [e9]; exact ih
    ·simp only [ce, decide_false, Bool.not_false, cond_true, if_false]
theorem s_LessName_eq {a b : ByteArray} (ha : a.size ≤ 1048576) (hb : b.size ≤ 1048576) : s_LessName a b = some (lessN a b) := by
 have h1 := labels_len a
 have h2 := labels_len b
 unfold s_LessName
 rw [s_Labels_eq ha, bnd1_mk, s_Labels_eq hb, bnd1_mk]
 have := s_LessName_l1_eq (labels a) (labels b) (by omega) (by omega) fuel0 _ 0 rfl (Nat.zero_le _) (Nat.zero_le _) (by unfold fuel0; omega)
 unfold lessN
 simpa using this
def lx {α : Type} [DecidableEq α] (lt : α → α → Bool) (x y : α) (r : Bool) : Bool := if x = y then r else lt x y
def lti (a b : Int) : Bool := decide (a < b)
def lessR (a b : Rec) : Bool := lx lessN a.name b.name (lx lti a.ty b.ty (lx lti a.n b.n (lx lessN a.host b.host (lx bl a.text b.text (lti a.ttl b.ttl)))))
theorem s_LessRecord_eq {a b : Rec} (ha : a.sm) (hb : b.sm) : s_LessRecord a b = some (lessR a b) := by
 unfold s_LessRecord lessR lx lti
 rw [s_LessName_eq ha.1 hb.1, s_LessName_eq ha.2.1 hb.2.1, bl_eq]
 by_cases c1 : a.name = b.name <;> by_cases c2 : a.ty = b.ty <;> by_cases c3 : a.n = b.n <;> by_cases c4 : a.host = b.host <;> by_cases c5 : a.text = b.text <;> simp [c1, c2, c3, c4, c5]
def lt (a b : Rec) : Prop := lessR a b = true
def left (til now : Int) : Int := if til - now ≤ 100000 then til - now else 100000
theorem w_big_eq {p : List Int} : w_big p = some (decide (1048576 < (p.length : Int))) := rfl
theorem within_self {a b : List Rec} (h : a.map zt = b.map zt) : within a b = true := by
 unfold within
 rw [List.all_eq_true]
 intro x hx
 have : zt x ∈ b.map zt := by rw [← h]; exact List.mem_map.2 ⟨x, hx, rfl⟩
 obtain ⟨y, hy, e⟩ := List.mem_map.1 this
 exact List.any_eq_true.2 ⟨y, hy, by rw [e]; simp⟩
theorem s_SortRecords_j1_eq {v : List Rec} {i : Nat} {e : Rec} {K : List Rec → Nat → Option (List Rec)} {j : Nat} (hj : j ≤ v.length) (hv : v.length ≤ 1000) : s_SortRecords_j1 v i e K (j : Int) = K ((v.take j ++ [e]) ++ v.drop j) (i + 1) := by
 have e1 : (v.drop (0 + ((0 : Nat) : Int).toNat)).take ((j : Int).toNat - ((0 : Nat) : Int).toNat) = v.take j := by simp
 have e2 : (v.drop (0 + (j : Int).toNat)).take ((v.length : Int).toNat - (j : Int).toNat) = v.drop j := by
  rw [Int.toNat_natCast, Int.toNat_natCast, Nat.zero_add]; exact List.take_of_length_le (by simp)
 have l1 : (v.take j).length = j := by rw [List.length_take]; omega
 have l2 : (v.drop j).length = v.length - j := List.length_drop
 unfold s_SortRecords_j1
 rw [e1, e2, List.nil_append, grd_pos (by omega), grd_pos (by omega), grd_pos (by simp only [List.length_append, List.length_singleton]; omega), grd_pos (by omega), grd_pos (by simp only [List.length_append, List.length_singleton]; omega)]
theorem s_SortRecords_l2_p {v : List Rec} {i : Nat} {e : Rec} {K : List Rec → Nat → Option (List Rec)} (hv : v.length ≤ 1000) (hs : ∀ r, r ∈ v → r.sm) (he : e.sm) : ∀ (k fl : Nat), k ≤ v.length → k < fl → ∃ j, j ≤ v.length ∧ s_SortRecords_l2 v i e K fl (k : Int) = K ((v.take j ++ [e]) ++ v.drop j) (i + 1)
 | 0, fl, hk, hf => by
  obtain ⟨fl, rfl⟩ : ∃ q, fl = q + 1 := ⟨fl - 1, by omega⟩
  refine ⟨0, by omega, ?_⟩
  rw [s_SortRecords_l2]
  unfold s_SortRecords_j3
  exact s_SortRecords_j1_eq (j := 0) (by omega) hv
 | k + 1, fl, hk, hf => by
  obtain ⟨fl, rfl⟩ : ∃ q, fl = q + 1 := ⟨fl - 1, by omega⟩
  have c1 : (0 : Int) < ((k + 1 : Nat) : Int) := by omega
  have e9 : ((k + 1 : Nat) : Int) - 1 = (k : Int) := by omega
  obtain ⟨x, e1, hx⟩ := idx_ok (l := v) (i := (k : Int)) (by omega) (by omega)
  rw [s_SortRecords_l2, decide_eq_true c1, cond_true, e9, grd_i, e1, bnd1_mk, s_LessRecord_eq he (hs x hx), bnd1_mk]
  unfold s_SortRecords_j3
  cases lessR e x with
  | true =>
   obtain ⟨j, h1, h2⟩ := s_SortRecords_l2_p (i := i) (K := K) hv hs he k fl (by omega) (by omega)
   refine ⟨j, h1, ?_⟩
   rw [cond_true, e9, grd_i]
   exact h2
  | false => exact ⟨k + 1, hk, s_SortRecords_j1_eq hk hv⟩
theorem s_SortRecords_l0_p : ∀ (l v : List Rec) (i : Nat), (∀ r, r ∈ v → r.sm) → (∀ r, r ∈ l → r.sm) → v.length + l.length ≤ 1000 → ∃ m, s_SortRecords_l0 l v i = some m ∧ m.length = v.length + l.length ∧ ∀ r, r ∈ m → r ∈ v ∨ r ∈ l
 | [], v, i, _, _, _ => ⟨v, rfl, rfl, fun r hr => .inl hr⟩
 | e :: l, v, i, hv, hl, hn => by
  simp only [List.length_cons] at hn
  obtain ⟨j, h1, h2⟩ := s_SortRecords_l2_p (i := i) (K := s_SortRecords_l0 l) (by omega) hv (hl e (.head _)) v.length fuel0 (Nat.le_refl _) (fuel_lt (by omega))
  have hm : ∀ r, r ∈ (v.take j ++ [e]) ++ v.drop j → r ∈ v ∨ r = e := fun r hr => by
   rcases List.mem_append.1 hr with hr | hr
   ·rcases List.mem_append.1 hr with hr | hr
    ·exact .inl (List.mem_of_mem_take hr)
    ·exact .inr (List.mem_singleton.1 hr)
   ·exact .inl (List.mem_of_mem_drop hr)
  have hlen : ((v.take j ++ [e]) ++ v.drop j).length = v.length + 1 := by
   simp only [List.length_append, List.length_singleton, List.length_take, List.length_drop]; omega
  obtain ⟨m, g1, g2, g3⟩ := s_SortRecords_l0_p l ((v.take j ++ [e]) ++ v.drop j) (i + 1) (fun r hr => by
   rcases hm r hr with h | rfl
   ·exact hv r h
   ·exact hl r (.head _)) (fun r hr => hl r (.tail _ hr)) (by omega)
  refine ⟨m, by rw [s_SortRecords_l0, h2]; exact g1, by rw [g2, hlen, List.length_cons]; omega, fun r hr => ?_⟩
  rcases g3 r hr with h | h
  ·rcases hm r h with h | rfl
   ·exact .inl h
   ·exact .inr (.head _)
  ·exact .inr (.tail _ h)
theorem s_SortRecords_p {l : List Rec} (hl : l.length ≤ 1000) (hs : ∀ r, r ∈ l → r.sm) : ∃ m, s_SortRecords l = some m ∧ m.length = l.length ∧ ∀ r, r ∈ m → r ∈ l := by
 obtain ⟨m, h1, h2, h3⟩ := s_SortRecords_l0_p l [] 0 (fun r hr => by cases hr) hs (by simpa using hl)
 refine ⟨m, h1, by simpa using h2, fun r hr => ?_⟩
 rcases h3 r hr with h | h
 ·cases h
 ·exact h
def Rec.smt (r : Rec) : Prop := r.sm ∧ 0 ≤ r.ttl ∧ r.ttl ≤ 1000
theorem s_l10Uniq_l0_p : ∀ (l v : List Rec) (i : Nat), (∀ r, r ∈ v → r.smt) → (∀ r, r ∈ l → r.smt) → v.length + l.length ≤ 1000 → ∃ m, s_l10Uniq_l0 l v i = some m ∧ m.length ≤ v.length + l.length ∧ (0 < v.length ∨ 0 < l.length → 0 < m.length) ∧ ∀ r, r ∈ m → r.smt
 | [], v, i, hv, _, _ => ⟨v, rfl, Nat.le_refl _, fun h => by rcases h with h | h; exact h; simp at h, hv⟩
 | e :: l, v, i, hv, hl, hn => by
  simp only [List.length_cons] at hn
  have he := hl e (.head _)
  have hlt : ∀ r, r ∈ l → r.smt := fun r hr => hl r (.tail _ hr)
  have go : ∀ v' : List Rec, (∀ r, r ∈ v' → r.smt) → v'.length ≤ v.length + 1 → 0 < v'.length → ∃ m, s_l10Uniq_l0 l v' (i + 1) = some m ∧ m.length ≤ v.length + (e :: l).length ∧ (0 < v.length ∨ 0 < (e :: l).length → 0 < m.length) ∧ ∀ r, r ∈ m → r.smt := fun v' h1 h2 h3 => by
   obtain ⟨m, g1, g2, g3, g4⟩ := s_l10Uniq_l0_p l v' (i + 1) h1 hlt (by omega)
   exact ⟨m, g1, by rw [List.length_cons]; omega, fun _ => g3 (.inl h3), g4⟩
  have j1 : ∀ t : Int, 0 ≤ t → t ≤ 1000 → ∃ m, s_l10Uniq_j1 v i e (s_l10Uniq_l0 l) t = some m ∧ m.length ≤ v.length + (e :: l).length ∧ (0 < v.length ∨ 0 < (e :: l).length → 0 < m.length) ∧ ∀ r, r ∈ m → r.smt := fun t t0 t1 => by
   unfold s_l10Uniq_j1
   rw [grd_pos (by rw [List.length_append, List.length_singleton]; omega)]
   refine go _ (fun r hr => ?_) (by rw [List.length_append, List.length_singleton]; omega) (by rw [List.length_append, List.length_singleton]; omega)
   rcases List.mem_append.1 hr with hr | hr
   ·exact hv r hr
   ·rw [List.mem_singleton] at hr; rw [hr]; exact ⟨⟨he.1.1, he.1.2.1, he.1.2.2⟩, t0, t1⟩
  have j2 : ∀ b : Bool, (b = true → 0 < v.length) → ∃ m, s_l10Uniq_j2 v i e (s_l10Uniq_l0 l) b = some m ∧ m.length ≤ v.length + (e :: l).length ∧ (0 < v.length ∨ 0 < (e :: l).length → 0 < m.length) ∧ ∀ r, r ∈ m → r.smt := fun b hb => by
   unfold s_l10Uniq_j2
   cases b with
   | false => exact j1 _ he.2.1 he.2.2
   | true =>
    have h0 := hb rfl
    obtain ⟨x, e1, hx⟩ := idx_ok (l := v) (i := (v.length : Int) - 1) (by omega) (by omega)
    rw [cond_true, grd_i, e1, bnd1_mk, grd_i]
    generalize (decide (x.name = e.name) && (decide (x.ty = e.ty) && (decide (x.ttl = x.ttl) && (decide (x.n = e.n) && (decide (x.host = e.host) && (decide (x.text = e.text) && true)))))) = b
    cases b with
    | true => exact go v hv (by omega) h0
    | false => exact j1 _ (hv x hx).2.1 (hv x hx).2.2
  rw [s_l10Uniq_l0]
  cases hd : decide (0 < (v.length : Int)) with
  | false => exact j2 false (by simp)
  | true =>
   have h0 : 0 < v.length := by have := of_decide_eq_true hd; omega
   obtain ⟨x, e1, hx⟩ := idx_ok (l := v) (i := (v.length : Int) - 1) (by omega) (by omega)
   rw [cond_true, grd_i, e1, bnd1_mk, grd_i]
   cases decide (x.name = e.name) with
   | true => exact j2 _ (fun _ => h0)
   | false => exact j2 false (by simp)
theorem s_l10Uniq_p {l : List Rec} (hl : l.length ≤ 1000) (hs : ∀ r, r ∈ l → r.smt) : ∃ m, s_l10Uniq l = some m ∧ m.length ≤ l.length ∧ (0 < l.length → 0 < m.length) ∧ ∀ r, r ∈ m → r.smt := by
 obtain ⟨a, h1, h2, h3⟩ := s_SortRecords_p hl fun r hr => (hs r hr).1
 obtain ⟨m, g1, g2, g3, g4⟩ := s_l10Uniq_l0_p a [] 0 (fun r hr => by cases hr) (fun r hr => hs r (h3 r hr)) (by simp; omega)
 unfold s_l10Uniq
 rw [h1, bnd1_mk]
 exact ⟨m, g1, by simpa [h2] using g2, fun h => g3 (.inr (by omega)), g4⟩
def MZone.dz (z : MZone) (n : Nat) : Prop := z.apex.size ≤ 1048576 ∧ 0 < z.l.length ∧ z.l.length ≤ n ∧ ∀ r, r ∈ z.l → r.smt
theorem mem_app2 {α : Type} {p : α → Prop} {a b : List α} (h1 : ∀ r, r ∈ a → p r) (h2 : ∀ r, r ∈ b → p r) : ∀ r, r ∈ a ++ b → p r := fun r hr => by
 rcases List.mem_append.1 hr with h | h
 ·exact h1 r h
 ·exact h2 r h
theorem mem_one {α : Type} {p : α → Prop} {a : α} (h : p a) : ∀ r, r ∈ [a] → p r := fun r hr => by rw [List.mem_singleton] at hr; rw [hr]; exact h
theorem mem_two {α : Type} {p : α → Prop} {a b : α} (h : p a) (k : p b) : ∀ r, r ∈ [a, b] → p r := fun r hr => by
 cases hr with
 | head => exact h
 | tail _ hr => exact mem_one k r hr
theorem smt_of {a b c : ByteArray} {k t n : Int} (h1 : a.size ≤ 1048576) (h2 : b.size ≤ 1048576) (h3 : c.size ≤ 1048576) (t0 : 0 ≤ t) (t1 : t ≤ 1000) : (Rec.mk a k t n b c).smt := ⟨⟨h1, h2, h3⟩, t0, t1⟩
theorem s_l10Zone_p {c : Cur} (h : c.inv) : ∃ z d, s_l10Zone c = some (z, d) ∧ d.inv ∧ z.dz 8 := by
 obtain ⟨t, d1, e1, h1, ht⟩ := s_l1Int_p (l := [5, 60, 300]) h (by decide) (by decide)
 obtain ⟨t0, t1⟩ : 0 ≤ t ∧ t ≤ 1000 := by
  simp only [List.mem_cons, List.not_mem_nil, or_false] at ht
  omega
 have h2 : ∀ (d : Cur) (l : List Rec), d.inv → 0 < l.length → l.length ≤ 8 → (∀ r, r ∈ l → r.smt) → ∃ z q, s_l10Zone_j2 d.b d.i d.h l = some (z, q) ∧ q.inv ∧ z.dz 8 := fun d l hd l0 l1 hl => by
  obtain ⟨m, g1, g2, g3, g4⟩ := s_l10Uniq_p (l := l) (by omega) hl
  unfold s_l10Zone_j2
  rw [g1, bnd1_mk]
  exact ⟨_, _, rfl, hd, (by decide : (⟨#[99, 111, 109]⟩ : ByteArray).size ≤ 1048576), g3 l0, Nat.le_trans g2 l1, g4⟩
 have h3 : ∀ (d : Cur) (l : List Rec), d.inv → 0 < l.length → l.length ≤ 6 → (∀ r, r ∈ l → r.smt) → ∃ z q, s_l10Zone_j1 d.b d.i d.h l = some (z, q) ∧ q.inv ∧ z.dz 8 := fun d l hd l0 l1 hl => by
  obtain ⟨o, d3, e3, g3⟩ := s_l1Once_p (n := 2) hd (by omega) (by omega)
  unfold s_l10Zone_j1
  rw [show Cur.mk d.b d.i d.h = d from rfl, e3, bnd2_mk]
  cases o with
  | false => exact h2 d3 l g3 l0 (by omega) hl
  | true =>
   unfold s_l10Addr
   rw [cond_true, bnd1_mk, grd_pos (by rw [List.length_append]; simp only [List.length_cons, List.length_nil]; omega)]
   exact h2 d3 _ g3 (by rw [List.length_append]; omega) (by rw [List.length_append]; simp only [List.length_cons, List.length_nil]; omega) (mem_app2 hl (mem_two (smt_of (by decide) (by decide) (by decide) (by decide) (by decide)) (smt_of (by decide) (by decide) (by decide) (by decide) (by decide))))
 have h4 : ∀ (d : Cur) (l : List Rec), d.inv → 0 < l.length → l.length ≤ 5 → (∀ r, r ∈ l → r.smt) → ∃ z q, s_l10Zone_j0 d.b d.i d.h l = some (z, q) ∧ q.inv ∧ z.dz 8 := fun d l hd l0 l1 hl => by
  obtain ⟨o, d3, e3, g3⟩ := s_l1Once_p (n := 2) hd (by omega) (by omega)
  unfold s_l10Zone_j0
  rw [show Cur.mk d.b d.i d.h = d from rfl, e3, bnd2_mk]
  cases o with
  | false => exact h3 d3 l g3 l0 (by omega) hl
  | true =>
   rw [cond_true, grd_pos (by rw [List.length_append]; simp only [List.length_cons, List.length_nil]; omega)]
   exact h3 d3 _ g3 (by rw [List.length_append]; omega) (by rw [List.length_append]; simp only [List.length_cons, List.length_nil]; omega) (mem_app2 hl (mem_one (smt_of (by decide) (by decide) (by decide) (by decide) (by decide))))
 obtain ⟨o, d3, e3, g3⟩ := s_l1Once_p (n := 2) h1 (by omega) (by omega)
 unfold s_l10Zone s_l10Start s_l10Server s_l10Addr
 rw [e1, bnd2_mk, bnd1_mk, bnd1_mk, bnd1_mk, e3, bnd2_mk]
 have m0 : ∀ x y z : Rec, x.smt → y.smt → z.smt → ∀ r, r ∈ [x, y, z] → r.smt := fun x y z hx hy hz r hr => by
  cases hr with
  | head => exact hx
  | tail _ hr => exact mem_two hy hz r hr
 have hl : ∀ r, r ∈ [Rec.mk (⟨#[99, 111, 109]⟩ : ByteArray) 6 t (IntKind.i64.wrap (Int.tdiv t 2)) (⟨#[]⟩ : ByteArray) (⟨#[]⟩ : ByteArray), Rec.mk (⟨#[99, 111, 109]⟩ : ByteArray) 2 t 0 (⟨#[110, 115, 46, 99, 111, 109]⟩ : ByteArray) (⟨#[]⟩ : ByteArray), Rec.mk (⟨#[110, 115, 46, 99, 111, 109]⟩ : ByteArray) 1 t 2 (⟨#[]⟩ : ByteArray) (⟨#[]⟩ : ByteArray)] → r.smt :=
  m0 _ _ _ (smt_of (by decide) (by decide) (by decide) t0 t1) (smt_of (by decide) (by decide) (by decide) t0 t1) (smt_of (by decide) (by decide) (by decide) t0 t1)
 cases o with
 | false => exact h4 d3 _ g3 (by simp) (by simp) hl
 | true =>
  rw [cond_true, bnd1_mk, bnd1_mk, grd_pos (by simp)]
  exact h4 d3 _ g3 (by simp) (by simp) (mem_app2 hl (mem_two (smt_of (by decide) (by decide) (by decide) t0 t1) (smt_of (by decide) (by decide) (by decide) t0 t1)))
theorem dz_sm {z : MZone} {n : Nat} (h : z.dz n) (hn : n ≤ 1000) : z.sm := ⟨h.1, by have := h.2.2.1; omega, fun r hr => (h.2.2.2 r hr).1⟩
theorem s_l10Any_p {c : Cur} (h : c.inv) : ∃ z d, s_l10Any c = some (z, d) ∧ d.inv ∧ z.sm ∧ z.l.length ≤ 20 := by
 obtain ⟨z, d1, e1, h1, hz⟩ := s_l10Zone_p h
 obtain ⟨k, d2, e2, h2, -, -⟩ := s_l1Below_p (n := 12) h1 (by omega) (by omega)
 have hs := dz_sm hz (by omega)
 obtain ⟨z1, z2, z3, z4⟩ := hz
 have uq : ∀ x : Rec, x.smt → ∃ m, s_l10Uniq (z.l ++ [x]) = some m ∧ smL m ∧ m.length ≤ 20 := fun x hx => by
  obtain ⟨m, g1, g2, -, g4⟩ := s_l10Uniq_p (l := z.l ++ [x]) (by simp; omega) (mem_app2 z4 (mem_one hx))
  have g2' : m.length ≤ 20 := by simp at g2; omega
  exact ⟨m, g1, ⟨by omega, fun r hr => (g4 r hr).1⟩, g2'⟩
 unfold s_l10Any
 rw [e1, bnd2_mk, e2, bnd2_mk]
 cases decide (k = 0) with
 | true =>
  obtain ⟨s, d3, e3, h3, hs3⟩ := s_l1Str_p (l := [(⟨#[]⟩ : ByteArray), (⟨#[111, 114, 103]⟩ : ByteArray), (⟨#[101, 120, 46, 99, 111, 109]⟩ : ByteArray), (⟨#[65]⟩ : ByteArray)]) h2 (by decide) (by decide)
  rw [cond_true, e3, bnd2_mk]
  exact ⟨_, _, rfl, h3, ⟨small_of rfl hs3, hs.2⟩, by show z.l.length ≤ 20; omega⟩
 | false =>
 rw [cond_false]
 cases decide (k = 1) with
 | true =>
  obtain ⟨r, d3, e3, h3, hr⟩ := s_l5Draw_p h2
  rw [cond_true, e3, bnd2_mk, grd_pos (by simp; omega)]
  exact ⟨_, _, rfl, h3, ⟨z1, by show (z.l ++ [r]).length ≤ _; simp; omega, mem_app2 hs.2.2 (mem_one hr)⟩, by show (z.l ++ [r]).length ≤ _; simp; omega⟩
 | false =>
 rw [cond_false]
 cases decide (k = 2) with
 | true =>
  rw [cond_true, grd_pos (by omega)]
  refine ⟨_, _, rfl, h2, ⟨z1, ?_, fun r hr => hs.2.2 r (List.mem_of_mem_drop (List.mem_of_mem_take hr))⟩, ?_⟩
  ·show List.length (List.take _ _) ≤ _
   rw [List.length_take, List.length_drop]; omega
  ·show List.length (List.take _ _) ≤ _
   rw [List.length_take, List.length_drop]; omega
 | false =>
 rw [cond_false]
 cases decide (k = 3) with
 | true =>
  obtain ⟨m, g1, g2⟩ := uq _ (smt_of (a := (⟨#[120, 46, 101, 120, 46, 99, 111, 109]⟩ : ByteArray)) (k := 16) (t := 0) (n := 0) (b := (⟨#[]⟩ : ByteArray)) (c := (⟨#[110, 111]⟩ : ByteArray)) (by decide) (by decide) (by decide) (by decide) (by decide))
  rw [cond_true, grd_pos (by simp; omega), g1, bnd1_mk]
  exact ⟨_, _, rfl, h2, ⟨z1, g2.1⟩, g2.2⟩
 | false =>
 rw [cond_false]
 cases decide (k = 4) with
 | true =>
  obtain ⟨m, g1, g2⟩ := uq _ (smt_of (a := (⟨#[116, 46, 99, 111, 109]⟩ : ByteArray)) (k := 5) (t := 0) (n := 0) (b := (⟨#[99, 111, 109]⟩ : ByteArray)) (c := (⟨#[]⟩ : ByteArray)) (by decide) (by decide) (by decide) (by decide) (by decide))
  rw [cond_true, grd_pos (by simp; omega), g1, bnd1_mk]
  exact ⟨_, _, rfl, h2, ⟨z1, g2.1⟩, g2.2⟩
 | false =>
 rw [cond_false]
 cases decide (k = 5) with
 | true =>
  obtain ⟨m, g1, g2⟩ := uq _ (smt_of (a := (⟨#[97, 46, 99, 111, 109]⟩ : ByteArray)) (k := 6) (t := 5) (n := IntKind.i64.wrap (Int.tdiv 5 2)) (b := (⟨#[]⟩ : ByteArray)) (c := (⟨#[]⟩ : ByteArray)) (by decide) (by decide) (by decide) (by decide) (by decide))
  unfold s_l10Start
  rw [cond_true, bnd1_mk, grd_pos (by simp; omega), g1, bnd1_mk]
  exact ⟨_, _, rfl, h2, ⟨z1, g2.1⟩, g2.2⟩
 | false =>
 rw [cond_false]
 cases decide (k = 6) with
 | true =>
  obtain ⟨x, g1, g2⟩ := idx_ok (l := z.l) (i := 0) (by omega) (by omega)
  have hx := z4 x g2
  have hx1 := hx.2.1
  have hx2 := hx.2.2
  rw [cond_true, g1, bnd1_mk, grd_i]
  refine ⟨_, _, rfl, h2, ⟨z1, by show List.length (List.set _ _ _) ≤ _; rw [List.length_set]; omega, fun r hr => ?_⟩, by show List.length (List.set _ _ _) ≤ _; rw [List.length_set]; omega⟩
  rcases List.mem_or_eq_of_mem_set hr with hr | rfl
  ·exact hs.2.2 r hr
  ·exact ⟨hx.1.1, hx.1.2.1, hx.1.2.2⟩
 | false => exact ⟨_, _, rfl, h2, hs, by omega⟩
def z1 (t : Int) (a : Bool) : List Rec := bif a then [Rec.mk (⟨#[99, 111, 109]⟩ : ByteArray) 6 t (IntKind.i64.wrap (Int.tdiv t 2)) (⟨#[]⟩ : ByteArray) (⟨#[]⟩ : ByteArray), Rec.mk (⟨#[99, 111, 109]⟩ : ByteArray) 2 t 0 (⟨#[110, 115, 46, 99, 111, 109]⟩ : ByteArray) (⟨#[]⟩ : ByteArray), Rec.mk (⟨#[110, 115, 46, 99, 111, 109]⟩ : ByteArray) 1 t 2 (⟨#[]⟩ : ByteArray) (⟨#[]⟩ : ByteArray)] ++ [Rec.mk (⟨#[101, 120, 46, 99, 111, 109]⟩ : ByteArray) 2 t 0 (⟨#[110, 115, 46, 101, 120, 46, 99, 111, 109]⟩ : ByteArray) (⟨#[]⟩ : ByteArray), Rec.mk (⟨#[110, 115, 46, 101, 120, 46, 99, 111, 109]⟩ : ByteArray) 1 t 3 (⟨#[]⟩ : ByteArray) (⟨#[]⟩ : ByteArray)]
 else [Rec.mk (⟨#[99, 111, 109]⟩ : ByteArray) 6 t (IntKind.i64.wrap (Int.tdiv t 2)) (⟨#[]⟩ : ByteArray) (⟨#[]⟩ : ByteArray), Rec.mk (⟨#[99, 111, 109]⟩ : ByteArray) 2 t 0 (⟨#[110, 115, 46, 99, 111, 109]⟩ : ByteArray) (⟨#[]⟩ : ByteArray), Rec.mk (⟨#[110, 115, 46, 99, 111, 109]⟩ : ByteArray) 1 t 2 (⟨#[]⟩ : ByteArray) (⟨#[]⟩ : ByteArray)]
def z2 (b : Bool) (l : List Rec) : List Rec := bif b then l ++ [Rec.mk (⟨#[119, 119, 119, 46, 99, 111, 109]⟩ : ByteArray) 5 9 0 (⟨#[97, 46, 111, 114, 103]⟩ : ByteArray) (⟨#[]⟩ : ByteArray)] else l
def z3 (c : Bool) (l : List Rec) : List Rec := bif c then l ++ [Rec.mk (⟨#[116, 46, 99, 111, 109]⟩ : ByteArray) 16 7 0 (⟨#[]⟩ : ByteArray) (⟨#[104, 105]⟩ : ByteArray), Rec.mk (⟨#[98, 46, 97, 46, 99, 111, 109]⟩ : ByteArray) 1 9 8 (⟨#[]⟩ : ByteArray) (⟨#[]⟩ : ByteArray)] else l
def rl (l : List Rec) (n : Nat) : Prop := l.length ≤ n ∧ ∀ r, r ∈ l → r.smt
theorem rl_nil : rl [] 0 := ⟨Nat.le_refl _, fun r hr => by cases hr⟩
theorem rl_cons {r : Rec} {l : List Rec} {n : Nat} (h : r.smt) (t : rl l n) : rl (r :: l) (n + 1) := ⟨by have := t.1; simp; omega, fun q hq => by
 rcases List.mem_cons.1 hq with rfl | hq
 ·exact h
 ·exact t.2 q hq⟩
theorem rl_app {a b : List Rec} {m n : Nat} (h : rl a m) (k : rl b n) : rl (a ++ b) (m + n) := ⟨by have := h.1; have := k.1; simp; omega, fun q hq => by
 rcases List.mem_append.1 hq with hq | hq
 ·exact h.2 q hq
 ·exact k.2 q hq⟩
theorem rl_le {a : List Rec} {m n : Nat} (h : rl a m) (hn : m ≤ n) : rl a n := ⟨Nat.le_trans h.1 hn, h.2⟩
theorem rl_g {a b : List Rec} {m n : Nat} (h : rl a m) (k : rl b n) (hn : m + n ≤ 1000) : (a ++ b).length ≤ 1099511627776 := by have := (rl_app h k).1; omega
theorem uniq_rl {l : List Rec} {n : Nat} (h : rl l n) (hn : n ≤ 1000) : ∃ m, s_l10Uniq l = some m ∧ rl m n := by
 obtain ⟨m, h1, h2, -, h3⟩ := s_l10Uniq_p (l := l) (Nat.le_trans h.1 hn) h.2
 exact ⟨m, h1, Nat.le_trans h2 h.1, h3⟩
def pl (l : List MPost) (n : Nat) : Prop := l.length ≤ n ∧ ∀ p, p ∈ l → p.sm
theorem pl_nil : pl [] 0 := ⟨Nat.le_refl _, fun r hr => by cases hr⟩
theorem pl_cons {r : MPost} {l : List MPost} {n : Nat} (h : r.sm) (t : pl l n) : pl (r :: l) (n + 1) := ⟨by have := t.1; simp; omega, fun q hq => by
 rcases List.mem_cons.1 hq with rfl | hq
 ·exact h
 ·exact t.2 q hq⟩
theorem pl_app {a b : List MPost} {m n : Nat} (h : pl a m) (k : pl b n) : pl (a ++ b) (m + n) := ⟨by have := h.1; have := k.1; simp; omega, fun q hq => by
 rcases List.mem_append.1 hq with hq | hq
 ·exact h.2 q hq
 ·exact k.2 q hq⟩
theorem pl_le {a : List MPost} {m n : Nat} (h : pl a m) (hn : m ≤ n) : pl a n := ⟨Nat.le_trans h.1 hn, h.2⟩
def MForest.df (f : MForest) : Prop := f.zones.length ≤ 4 ∧ (∀ z, z ∈ f.zones → z.apex.size ≤ 1048576 ∧ rl z.l 30) ∧ pl f.posts 30
theorem posts_two {p : List MPost} (hp : pl p 8) (k : Int) : pl ((p ++ [MPost.mk 3 (⟨#[101, 120, 46, 99, 111, 109]⟩ : ByteArray)]) ++ [MPost.mk k (⟨#[111, 114, 103]⟩ : ByteArray)]) 30 :=
 pl_le (pl_app (pl_app hp (pl_cons (by show (⟨#[101, 120, 46, 99, 111, 109]⟩ : ByteArray).size ≤ _; decide) pl_nil)) (pl_cons (by show (⟨#[111, 114, 103]⟩ : ByteArray).size ≤ _; decide) pl_nil)) (by decide)
theorem str_bnd {α : Type} {c : Cur} {l : List ByteArray} {k : ByteArray → Cur → Option α} {P : α → Prop} (h : c.inv) (h1 : Nat.blt 0 l.length = true) (h2 : Nat.ble l.length 256 = true) (h3 : (l.all fun y => Nat.ble y.size 1048576) = true) (hk : ∀ x d, d.inv → x.size ≤ 1048576 → ∃ r, k x d = some r ∧ P r) : ∃ r, bnd2 (s_l1Str c l) k = some r ∧ P r := by
 obtain ⟨x, d, e, hd, hm⟩ := s_l1Str_p h (by simpa [Nat.blt_eq] using h1) (Nat.le_of_ble_eq_true h2)
 rw [e, bnd2_mk]
 exact hk x d hd (small_of h3 hm)
theorem int_bnd {α : Type} {c : Cur} {l : List Int} {k : Int → Cur → Option α} {P : α → Prop} (h : c.inv) (h1 : Nat.blt 0 l.length = true) (h2 : Nat.ble l.length 256 = true) (hk : ∀ x d, d.inv → x ∈ l → ∃ r, k x d = some r ∧ P r) : ∃ r, bnd2 (s_l1Int c l) k = some r ∧ P r := by
 obtain ⟨x, d, e, hd, hm⟩ := s_l1Int_p h (by simpa [Nat.blt_eq] using h1) (Nat.le_of_ble_eq_true h2)
 rw [e, bnd2_mk]
 exact hk x d hd hm
theorem below_bnd {α : Type} {c : Cur} {n : Int} {k : Int → Cur → Option α} {P : α → Prop} (h : c.inv) (h1 : 0 < n) (h2 : n ≤ 256) (hk : ∀ x d, d.inv → 0 ≤ x → x < n → ∃ r, k x d = some r ∧ P r) : ∃ r, bnd2 (s_l1Below c n) k = some r ∧ P r := by
 obtain ⟨x, d, e, hd, h3, h4⟩ := s_l1Below_p h h1 h2
 rw [e, bnd2_mk]
 exact hk x d hd h3 h4
theorem once_bnd {α : Type} {c : Cur} {n : Int} {k : Bool → Cur → Option α} {P : α → Prop} (h : c.inv) (h1 : 0 < n) (h2 : n ≤ 256) (hk : ∀ x d, d.inv → ∃ r, k x d = some r ∧ P r) : ∃ r, bnd2 (s_l1Once c n) k = some r ∧ P r := by
 obtain ⟨x, d, e, hd⟩ := s_l1Once_p h h1 h2
 rw [e, bnd2_mk]
 exact hk x d hd
theorem rec_bnd {α : Type} {c : Cur} {k : Rec → Cur → Option α} {P : α → Prop} (h : c.inv) (hk : ∀ x d, d.inv → x.sm → ∃ r, k x d = some r ∧ P r) : ∃ r, bnd2 (s_l5Draw c) k = some r ∧ P r := by
 obtain ⟨x, d, e, hd, hx⟩ := s_l5Draw_p h
 rw [e, bnd2_mk]
 exact hk x d hd hx
theorem bif_p {α : Type} {b : Bool} {x y : Option α} {P : α → Prop} (h1 : b = true → ∃ r, x = some r ∧ P r) (h2 : b = false → ∃ r, y = some r ∧ P r) : ∃ r, (bif b then x else y) = some r ∧ P r := by
 cases b with
 | true => exact h1 rfl
 | false => exact h2 rfl
def sl (l : List Rec) (n : Nat) : Prop := l.length ≤ n ∧ ∀ r, r ∈ l → r.sm
theorem s_l12Name_p {c : Cur} (h : c.inv) : ∃ r, s_l12Name c = some r ∧ r.2.inv ∧ r.1.size ≤ 1048576 := by
 unfold s_l12Name
 exact str_bnd h rfl rfl rfl fun x d hd hx => ⟨_, rfl, hd, hx⟩
theorem name_bnd {α : Type} {c : Cur} {k : ByteArray → Cur → Option α} {P : α → Prop} (h : c.inv) (hk : ∀ x d, d.inv → x.size ≤ 1048576 → ∃ r, k x d = some r ∧ P r) : ∃ r, bnd2 (s_l12Name c) k = some r ∧ P r := by
 obtain ⟨⟨x, d⟩, e, hd, hx⟩ := s_l12Name_p h
 rw [e, bnd2_mk]
 exact hk x d hd hx
theorem s_l9Near_q {c : Cur} (h : c.inv) : ∃ m d, s_l9Near c = some (m, d) ∧ d.inv ∧ m.length ≤ 6 ∧ ∀ r, r ∈ m → r.sm := by
 obtain ⟨n, d, e, hd, h0, h1⟩ := s_l1Below_p (n := 6) h (by omega) (by omega)
 obtain ⟨k, rfl⟩ : ∃ k : Nat, n = (k : Int) := ⟨n.toNat, by omega⟩
 obtain ⟨m, q, g1, g2, g3, g4⟩ := s_l9Near_l0_p k fuel0 d [] hd (fuel_lt (by omega)) (fun r hr => by cases hr) (by simp; omega)
 unfold s_l9Near
 rw [e, bnd2_mk]
 exact ⟨m, q, g1, g2, by simp at g3; omega, g4⟩
theorem near_bnd {α : Type} {c : Cur} {k : List Rec → Cur → Option α} {P : α → Prop} (h : c.inv) (hk : ∀ x d, d.inv → x.length ≤ 6 → (∀ r, r ∈ x → r.sm) → ∃ r, k x d = some r ∧ P r) : ∃ r, bnd2 (s_l9Near c) k = some r ∧ P r := by
 obtain ⟨x, d, e, hd, h1, h2⟩ := s_l9Near_q h
 rw [e, bnd2_mk]
 exact hk x d hd h1 h2
theorem ba_ext {a b : ByteArray} (h : a.data.toList = b.data.toList) : a = b := by
 cases a; cases b; simp only at h; congr 1; exact Array.toList_inj.1 h
theorem ba_app (a b : ByteArray) : (a ++ b).data.toList = a.data.toList ++ b.data.toList := by
 rw [ByteArray.data_append, Array.toList_append]
theorem joinB_list (l : List ByteArray) (s : ByteArray) : (joinB l s).data.toList = Lib.join (l.map fun x => x.data.toList) s.data.toList := by
 unfold joinB; simp
theorem joinB_one (p s : ByteArray) : joinB [p] s = p := ba_ext (by rw [joinB_list]; simp [Lib.join_one])
theorem joinB_snoc {l : List ByteArray} (p s : ByteArray) (h : l ≠ []) : joinB (l ++ [p]) s = (joinB l s ++ s) ++ p := by
 cases l with
 | nil => exact absurd rfl h
 | cons x t =>
  apply ba_ext
  rw [ba_app, ba_app, joinB_list, joinB_list]
  simp only [List.cons_append, List.map_cons, List.map_append, List.map_nil, Lib.join_cons, Lib.joinTail]
  simp [List.append_assoc]
theorem size_app (a b : ByteArray) : (a ++ b).size = a.size + b.size := ByteArray.size_append
def w2 (k : Int) : List Int := [k / 256, k % 256]
def dg (d : Nat) : ByteArray := strOfNums [48 + (d : Int)]
def numL (v : Nat) : ByteArray := if _h : v = 0 then ⟨#[]⟩ else numL (v / 10) ++ dg (v % 10)
termination_by v
decreasing_by omega
def num (v : Nat) : ByteArray := if v = 0 then ⟨#[48]⟩ else numL v
theorem dg_size (d : Nat) : (dg d).size = 1 := rfl
theorem numL_size : ∀ (k v : Nat), v ≤ k → (numL v).size ≤ v
 | k, v, h => by
  rw [numL]
  by_cases c : v = 0
  ·rw [dif_pos c]; show (0 : Nat) ≤ v; omega
  ·rw [dif_neg c, ByteArray.size_append, dg_size]
   cases k with
   | zero => omega
   | succ k =>
    have := numL_size k (v / 10) (by omega)
    omega
theorem num_size (v : Nat) : (num v).size ≤ v + 1 := by
 unfold num
 split
 ·show (1 : Nat) ≤ v + 1; omega
 ·have := numL_size v v (Nat.le_refl _); omega
theorem enc_dig : ∀ d : Fin 10, Utf8.encode (IntKind.i32.wrap (48 + (d.val : Int))) = dg d.val := by decide +kernel
theorem enc_dig' {d : Nat} (h : d < 10) : Utf8.encode (IntKind.i32.wrap (48 + (d : Int))) = dg d := enc_dig ⟨d, h⟩
theorem nil_app (s : ByteArray) : (⟨#[]⟩ : ByteArray) ++ s = s := by apply ba_ext; rw [ba_app]; rfl
theorem num_lt {v : Nat} (h : v < 10) : num v = dg v := by
 unfold num
 by_cases c : v = 0
 ·subst c; rfl
 ·rw [if_neg c, numL, dif_neg c, numL, dif_pos (by omega), nil_app, Nat.mod_eq_of_lt h]
theorem num_ge {v : Nat} (h : 10 ≤ v) : num v = num (v / 10) ++ dg (v % 10) := by
 unfold num
 rw [if_neg (by omega), if_neg (by omega), numL, dif_neg (by omega)]
theorem i_NumText_r_eq : ∀ (k v fr : Nat), v ≤ 2147483647 → v < 10 ^ k → k < fr → i_NumText_r fr (v : Int) = some (num v)
 | 0, v, fr, hv, hk, hf => by
  obtain ⟨fr, rfl⟩ : ∃ q, fr = q + 1 := ⟨fr - 1, by omega⟩
  have h0 : v = 0 := by simpa using hk
  subst h0
  rw [i_NumText_r, decide_eq_false (by omega), cond_false]; rfl
 | k + 1, v, fr, hv, hk, hf => by
  obtain ⟨fr, rfl⟩ : ∃ q, fr = q + 1 := ⟨fr - 1, by omega⟩
  rw [i_NumText_r, decide_eq_false (by omega), cond_false]
  unfold i_NumText_j0
  rw [cond_false, decide_eq_false (by omega), cond_false]
  by_cases c : v < 10
  ·rw [decide_eq_true (by omega), cond_true, grd_i, enc_dig' c, num_lt c]
  ·have e1 : Int.tdiv (v : Int) 10 = ((v / 10 : Nat) : Int) := by rw [Int.tdiv_eq_ediv_of_nonneg (by omega)]; omega
   have e2 : Int.tmod (v : Int) 10 = ((v % 10 : Nat) : Int) := by rw [Int.tmod_eq_emod_of_nonneg (by omega)]; omega
   have hk2 : v / 10 < 10 ^ k := by rw [Nat.pow_succ] at hk; omega
   have hs := num_size (v / 10)
   rw [decide_eq_false (by omega), cond_false, e1, e2, wrap_id (by omega), i_NumText_r_eq k (v / 10) fr (by omega) hk2 (by omega), bnd1_mk, grd_i, enc_dig' (by omega), grd_pos (by rw [dg_size]; omega), num_ge (v := v) (by omega)]
theorem i_NumText_eq {v : Int} (h : 0 ≤ v ∧ v ≤ 2147483647) : i_NumText v = some (num v.toNat) := by
 unfold i_NumText
 have := i_NumText_r_eq 10 v.toNat fuel0 (by omega) (by omega) (by unfold fuel0; omega)
 rw [show ((v.toNat : Nat) : Int) = v by omega] at this
 exact this
theorem s_NumText_l1_eq {p : Int} (hp : 0 ≤ p) : ∀ (k v fl : Nat) (acc : ByteArray), v ≤ 2147483647 → v < 10 ^ k → k < fl → acc.size + k ≤ 4294967296 → s_NumText_l1 p fl acc (v : Int) = some (numL v ++ acc)
 | k, v, 0, acc, _, _, hf, _ => by omega
 | 0, v, fl + 1, acc, hv, hk, hf, ha => by
  have h0 : v = 0 := by simpa using hk
  subst h0
  rw [s_NumText_l1, decide_eq_true (by omega)]
  unfold s_NumText_j0
  rw [Bool.not_true, cond_false, decide_eq_false (by omega), cond_false, numL, dif_pos rfl, nil_app]
 | k + 1, v, fl + 1, acc, hv, hk, hf, ha => by
  rw [s_NumText_l1]
  by_cases c : v = 0
  ·subst c
   rw [decide_eq_true (by omega)]
   unfold s_NumText_j0
   rw [Bool.not_true, cond_false, decide_eq_false (by omega), cond_false, numL, dif_pos rfl, nil_app]
  ·have e1 : Int.tdiv (v : Int) 10 = ((v / 10 : Nat) : Int) := by rw [Int.tdiv_eq_ediv_of_nonneg (by omega)]; omega
   have e2 : Int.tmod (v : Int) 10 = ((v % 10 : Nat) : Int) := by rw [Int.tmod_eq_emod_of_nonneg (by omega)]; omega
   have hk2 : v / 10 < 10 ^ k := by rw [Nat.pow_succ] at hk; omega
   rw [decide_eq_false (by omega), Bool.not_false, cond_true, e2, decide_eq_false (by omega), cond_false]
   unfold s_NumText_j2
   have ed : strOfNums [IntKind.u8.wrap (48 + ((v % 10 : Nat) : Int))] = dg (v % 10) := by unfold dg; rw [wrap8 (by omega)]
   have ih := s_NumText_l1_eq hp k (v / 10) fl (dg (v % 10) ++ acc) (by omega) hk2 (by omega)
   have e3 : numL v ++ acc = numL (v / 10) ++ (dg (v % 10) ++ acc) := by
    rw [numL, dif_neg c]
    apply ba_ext; simp only [ba_app, List.append_assoc]
   rw [grd_i, ed, grd_pos (by rw [dg_size]; omega), e1, wrap_id (by omega), ih (by rw [size_app, dg_size]; omega), e3]
theorem s_NumText_eq {v : Int} (h : 0 ≤ v ∧ v ≤ 2147483647) : s_NumText v = some (num v.toNat) := by
 unfold s_NumText num
 by_cases c : v = 0
 ·rw [decide_eq_true c, if_pos (by omega)]; rfl
 ·have := s_NumText_l1_eq (p := v) h.1 10 v.toNat fuel0 ⟨#[]⟩ (by omega) (by omega) (by unfold fuel0; omega) (by show 0 + 10 ≤ _; omega)
  rw [show ((v.toNat : Nat) : Int) = v by omega] at this
  rw [decide_eq_false c, cond_false, if_neg (by omega), this]
  congr 1
  apply ba_ext; rw [ba_app]; simp
def dotN (s : ByteArray) : ByteArray := if s = ⟨#[]⟩ then ⟨#[46]⟩ else s
def typS (k : Int) : ByteArray := if k = 1 then ⟨#[97, 100, 100, 114]⟩ else if k = 2 then ⟨#[115, 101, 114, 118, 101, 114]⟩ else if k = 5 then ⟨#[97, 108, 105, 97, 115]⟩ else if k = 6 then ⟨#[115, 116, 97, 114, 116]⟩ else if k = 16 then ⟨#[116, 101, 120, 116]⟩ else ⟨#[]⟩
def spc (a b : ByteArray) : ByteArray := (a ++ ⟨#[32]⟩) ++ b
def recS (r : Rec) : ByteArray :=
 if recP r = true then
  (if r.ty = 1 then spc (spc (spc (dotN r.name) (num r.ttl.toNat)) (typS r.ty)) (num r.n.toNat)
  else if r.ty = 6 then spc (spc (spc (spc (dotN r.name) (num r.ttl.toNat)) (typS r.ty)) (dotN r.host)) (num r.n.toNat)
  else if r.ty = 16 then spc (spc (spc (dotN r.name) (num r.ttl.toNat)) (typS r.ty)) (⟨#[39]⟩ ++ r.text)
  else spc (spc (spc (dotN r.name) (num r.ttl.toNat)) (typS r.ty)) (dotN r.host))
 else ⟨#[]⟩
theorem spc_size (a b : ByteArray) : (spc a b).size = a.size + 1 + b.size := by unfold spc; rw [size_app, size_app]; rfl
theorem dotN_size (s : ByteArray) : (dotN s).size ≤ s.size + 1 := by
 unfold dotN; split
 ·show (1 : Nat) ≤ _; omega
 ·omega
theorem typS_size (k : Int) : (typS k).size ≤ 6 := by
 unfold typS
 repeat (split; (first | (show (4 : Nat) ≤ 6; omega) | (show (5 : Nat) ≤ 6; omega) | (show (6 : Nat) ≤ 6; omega)))
 show (0 : Nat) ≤ 6; omega
theorem s_l5Dot_eq {s : ByteArray} : s_l5Dot s = some (dotN s) := by unfold s_l5Dot dotN; by_cases c : s = ⟨#[]⟩ <;> simp [c]
theorem i_nameText_eq {s : ByteArray} : i_nameText s = some (dotN s) := by unfold i_nameText dotN; by_cases c : s = ⟨#[]⟩ <;> simp [c]
theorem s_TypeText_eq {k : Int} : s_TypeText k = some (typS k) := by
 unfold s_TypeText typS
 by_cases c1 : k = 1
 ·simp [c1]
 by_cases c2 : k = 2
 ·simp [c2]
 by_cases c5 : k = 5
 ·simp [c5]
 by_cases c6 : k = 6
 ·simp [c6]
 by_cases c16 : k = 16
 ·simp [c16]
 simp [c1, c2, c5, c6, c16]
theorem i_TypeText_eqS {k : Int} : i_TypeText k = some (typS k) := by
 unfold i_TypeText typS
 by_cases c1 : k = 1
 ·simp [c1]
 by_cases c2 : k = 2
 ·simp [c2]
 by_cases c5 : k = 5
 ·simp [c5]
 by_cases c6 : k = 6
 ·simp [c6]
 by_cases c16 : k = 16
 ·simp [c16]
 simp [c1, c2, c5, c6, c16]
theorem recP_t {r : Rec} (hp : recP r = true) : (0 ≤ r.ttl ∧ r.ttl ≤ 100000) ∧ (r.ty = 1 → 0 ≤ r.n ∧ r.n ≤ 2147483647) ∧ (r.ty = 6 → 0 ≤ r.n ∧ r.n ≤ 2147483647) ∧ (r.ty = 1 ∨ r.ty = 2 ∨ r.ty = 5 ∨ r.ty = 6 ∨ r.ty = 16) := by
 unfold recP at hp
 simp only [Bool.and_eq_true, inP, decide_eq_true_eq] at hp
 obtain ⟨h1, h2, h3⟩ := hp
 by_cases c1 : r.ty = 1
 ·rw [decide_eq_true c1, cond_true] at h3
  simp only [Bool.and_eq_true, decide_eq_true_eq] at h3
  exact ⟨h2, fun _ => h3.1, fun h => by omega, .inl c1⟩
 rw [decide_eq_false c1, cond_false] at h3
 by_cases c2 : r.ty = 2
 ·exact ⟨h2, fun h => absurd h c1, fun h => by omega, .inr (.inl c2)⟩
 by_cases c5 : r.ty = 5
 ·exact ⟨h2, fun h => absurd h c1, fun h => by omega, .inr (.inr (.inl c5))⟩
 rw [decide_eq_false c2, decide_eq_false c5, Bool.or_false, cond_false] at h3
 by_cases c6 : r.ty = 6
 ·rw [decide_eq_true c6, cond_true] at h3
  simp only [Bool.and_eq_true, decide_eq_true_eq] at h3
  exact ⟨h2, fun h => absurd h c1, fun _ => ⟨h3.1.1, by omega⟩, .inr (.inr (.inr (.inl c6)))⟩
 rw [decide_eq_false c6, cond_false] at h3
 simp only [Bool.and_eq_true, decide_eq_true_eq] at h3
 exact ⟨h2, fun h => absurd h c1, fun h => absurd h c6, .inr (.inr (.inr (.inr h3.1)))⟩
theorem recS_size {r : Rec} (h : r.sm) : (recS r).size ≤ 4300000000 := by
 obtain ⟨h1, h2, h3⟩ := h
 unfold recS
 split
 ·rename_i hp
  obtain ⟨p1, p2, p3, p4⟩ := recP_t hp
  have a1 := dotN_size r.name
  have a2 := dotN_size r.host
  have a3 := num_size r.ttl.toNat
  have a4 := num_size r.n.toNat
  have a5 := typS_size r.ty
  by_cases c1 : r.ty = 1
  ·have := p2 c1
   rw [if_pos c1, spc_size, spc_size, spc_size]; omega
  rw [if_neg c1]
  by_cases c6 : r.ty = 6
  ·have := p3 c6
   rw [if_pos c6, spc_size, spc_size, spc_size, spc_size]; omega
  rw [if_neg c6]
  by_cases c16 : r.ty = 16
  ·rw [if_pos c16, spc_size, spc_size, spc_size, size_app]; show _ + 1 + (1 + _) ≤ _; omega
  ·rw [if_neg c16, spc_size, spc_size, spc_size]; omega
 ·show (0 : Nat) ≤ _; omega
theorem joinB_spc3 (a b c : ByteArray) : joinB [a, b, c] ⟨#[32]⟩ = spc (spc a b) c := by
 rw [show [a, b, c] = ([a] ++ [b]) ++ [c] from rfl, joinB_snoc _ _ (by simp), joinB_snoc _ _ (by simp), joinB_one]; rfl
theorem joinB_spc {l : List ByteArray} (h : l ≠ []) (x : ByteArray) : joinB (l ++ [x]) ⟨#[32]⟩ = spc (joinB l ⟨#[32]⟩) x := joinB_snoc _ _ h
theorem i_RecordText_j0_eq {l : List ByteArray} (h : l.length ≤ 10) (h2 : (joinB l ⟨#[32]⟩).size ≤ 5000000000) : i_RecordText_j0 l = some (joinB l ⟨#[32]⟩) := by
 unfold i_RecordText_j0 strings_Join
 have h3 : (Lib.join (l.map fun x => x.data.toList) (⟨#[32]⟩ : ByteArray).data.toList).length = (joinB l ⟨#[32]⟩).size := by rw [← joinB_list]; rfl
 rw [grd_pos ⟨by omega, by rw [h3]; omega⟩, bnd1_mk]
theorem i_RecordText_eq {r : Rec} (h : r.sm) : i_RecordText r = some (recS r) := by
 have hz := recS_size h
 obtain ⟨h1, h2, h3⟩ := id h
 unfold i_RecordText
 rw [i_RecordOk_eq h, bnd1_mk]
 unfold recS at hz ⊢
 cases hp : recP r with
 | false => rw [if_neg (by simp)]; rfl
 | true =>
  rw [if_pos rfl]
  rw [hp, if_pos rfl] at hz
  obtain ⟨p1, p2, p3, p4⟩ := recP_t hp
  rw [Bool.not_true, cond_false, i_nameText_eq, bnd1_mk, i_NumText_eq (by omega), bnd1_mk, i_TypeText_eqS, bnd1_mk]
  unfold i_RecordText_j1
  generalize dotN r.name = a at hz ⊢
  generalize num r.ttl.toNat = b at hz ⊢
  generalize typS r.ty = c at hz ⊢
  have e3 := joinB_spc3 a b c
  by_cases c1 : r.ty = 1
  ·rw [if_pos c1] at hz ⊢
   have e4 : joinB ([a, b, c] ++ [num r.n.toNat]) ⟨#[32]⟩ = spc (spc (spc a b) c) (num r.n.toNat) := by rw [joinB_spc (by simp), e3]
   rw [decide_eq_true c1, cond_true, i_NumText_eq (p2 c1), bnd1_mk, grd_pos (by simp), i_RecordText_j0_eq (by simp) (by rw [e4]; omega), e4]
  rw [if_neg c1] at hz ⊢
  rw [decide_eq_false c1, cond_false]
  by_cases c6 : r.ty = 6
  ·rw [if_pos c6] at hz ⊢
   have e4 : joinB ([a, b, c] ++ [dotN r.host, num r.n.toNat]) ⟨#[32]⟩ = spc (spc (spc (spc a b) c) (dotN r.host)) (num r.n.toNat) := by
    rw [show [a, b, c] ++ [dotN r.host, num r.n.toNat] = ([a, b, c] ++ [dotN r.host]) ++ [num r.n.toNat] from rfl, joinB_spc (by simp), joinB_spc (by simp), e3]
   rw [decide_eq_false (show ¬ r.ty = 2 by omega), cond_false, decide_eq_false (show ¬ r.ty = 5 by omega), cond_false, decide_eq_true c6, cond_true, i_nameText_eq, bnd1_mk, i_NumText_eq (p3 c6), bnd1_mk, grd_pos (by simp), i_RecordText_j0_eq (by simp) (by rw [e4]; omega), e4]
  rw [if_neg c6] at hz ⊢
  by_cases c16 : r.ty = 16
  ·rw [if_pos c16] at hz ⊢
   have e4 : joinB ([a, b, c] ++ [(⟨#[39]⟩ : ByteArray) ++ r.text]) ⟨#[32]⟩ = spc (spc (spc a b) c) (⟨#[39]⟩ ++ r.text) := by rw [joinB_spc (by simp), e3]
   rw [decide_eq_false (show ¬ r.ty = 2 by omega), cond_false, decide_eq_false (show ¬ r.ty = 5 by omega), cond_false, decide_eq_false c6, cond_false, decide_eq_true c16, cond_true, grd_pos (by show 1 + _ ≤ _; omega), grd_pos (by simp), i_RecordText_j0_eq (by simp) (by rw [e4]; omega), e4]
  ·rw [if_neg c16] at hz ⊢
   have e4 : joinB ([a, b, c] ++ [dotN r.host]) ⟨#[32]⟩ = spc (spc (spc a b) c) (dotN r.host) := by rw [joinB_spc (by simp), e3]
   have hkey : (bnd1 (i_nameText r.host) (fun x15 => grd (([a, b, c] ++ [x15]).length ≤ 1099511627776) (i_RecordText_j0 ([a, b, c] ++ [x15])))) = some (spc (spc (spc a b) c) (dotN r.host)) := by
    rw [i_nameText_eq, bnd1_mk, grd_pos (by simp), i_RecordText_j0_eq (by simp) (by rw [e4]; omega), e4]
   by_cases c2 : r.ty = 2
   ·rw [decide_eq_true c2, cond_true, cond_true]; exact hkey
   ·rw [decide_eq_false c2, cond_false, decide_eq_true (show r.ty = 5 by omega), cond_true]; exact hkey
theorem s_RecordText_eq {r : Rec} (h : r.sm) : s_RecordText r = some (recS r) := by
 have hz := recS_size h
 obtain ⟨h1, h2, h3⟩ := id h
 unfold s_RecordText
 rw [s_RecordOk_eq h, bnd1_mk]
 unfold recS at hz ⊢
 cases hp : recP r with
 | false => rw [if_neg (by simp)]; rfl
 | true =>
  rw [if_pos rfl]
  rw [hp, if_pos rfl] at hz
  obtain ⟨p1, p2, p3, p4⟩ := recP_t hp
  have a1 := dotN_size r.name
  have a2 := dotN_size r.host
  have a3 := num_size r.ttl.toNat
  have a4 := num_size r.n.toNat
  have a5 := typS_size r.ty
  have one : (⟨#[32]⟩ : ByteArray).size = 1 := rfl
  have one2 : (⟨#[39]⟩ : ByteArray).size = 1 := rfl
  simp only [s_l5Dot_eq, bnd1_mk, s_NumText_eq (show 0 ≤ r.ttl ∧ r.ttl ≤ 2147483647 by omega), s_TypeText_eq]
  generalize dotN r.name = a at hz a1 ⊢
  generalize num r.ttl.toNat = b at hz a3 ⊢
  generalize typS r.ty = c at hz a5 ⊢
  rw [grd_pos (by omega), grd_pos (by simp only [size_app]; omega), grd_pos (by simp only [size_app]; omega), grd_pos (by simp only [size_app]; omega), grd_pos (by simp only [size_app]; omega)]
  by_cases c1 : r.ty = 1
  ·have := p2 c1
   rw [if_pos c1]
   rw [decide_eq_true c1, cond_true, s_NumText_eq (p2 c1), bnd1_mk, grd_pos (by simp only [size_app]; omega)]; rfl
  rw [if_neg c1, decide_eq_false c1, cond_false]
  by_cases c6 : r.ty = 6
  ·have := p3 c6
   rw [if_pos c6]
   rw [decide_eq_true c6, cond_true, grd_pos (by simp only [size_app]; omega), grd_pos (by simp only [size_app]; omega), s_NumText_eq (p3 c6), bnd1_mk, grd_pos (by simp only [size_app]; omega)]; rfl
  rw [if_neg c6, decide_eq_false c6, cond_false]
  by_cases c16 : r.ty = 16
  ·rw [if_pos c16]
   rw [decide_eq_true c16, cond_true, grd_pos (by simp only [size_app]; omega), grd_pos (by simp only [size_app]; omega)]
   rw [Bool.not_true, cond_false]
   congr 1
   apply ba_ext; simp only [spc, ba_app, List.append_assoc]
  ·rw [if_neg c16]
   rw [decide_eq_false c16, cond_false, grd_pos (by simp only [size_app]; omega)]; rfl
def semi : ByteArray := ⟨#[59, 32]⟩
def textsS (acc : ByteArray) (l : List Rec) : ByteArray := l.foldl (fun a r => a ++ (semi ++ recS r)) acc
theorem textsS_size : ∀ (l : List Rec) (acc : ByteArray), (∀ r, r ∈ l → r.sm) → (textsS acc l).size ≤ acc.size + 4300000002 * l.length
 | [], acc, _ => Nat.le_refl _
 | r :: l, acc, h => by
  have ih := textsS_size l (acc ++ (semi ++ recS r)) fun q hq => h q (.tail _ hq)
  have h2 := recS_size (h r (.head _))
  rw [size_app, size_app] at ih
  have h3 : semi.size = 2 := rfl
  show (textsS (acc ++ (semi ++ recS r)) l).size ≤ _
  simp only [List.length_cons]
  omega
theorem textsS_app (l : List Rec) : ∀ acc : ByteArray, textsS acc l = acc ++ textsS ⟨#[]⟩ l := by
 induction l with
 | nil => intro acc; apply ba_ext; rw [ba_app]; simp [textsS]
 | cons r l ih =>
  intro acc
  show textsS (acc ++ (semi ++ recS r)) l = acc ++ textsS (⟨#[]⟩ ++ (semi ++ recS r)) l
  rw [ih, ih (⟨#[]⟩ ++ _)]
  apply ba_ext; simp only [ba_app, List.append_assoc, nil_app]
theorem s_l7Texts_l0_eq : ∀ (l : List Rec) (acc : ByteArray) (i : Nat), (∀ r, r ∈ l → r.sm) → acc.size + 4300000002 * l.length ≤ 9223372036854775807 → s_l7Texts_l0 l acc i = some (textsS acc l)
 | [], acc, i, _, _ => rfl
 | r :: l, acc, i, h, hs => by
  simp only [List.length_cons] at hs
  have h2 := recS_size (h r (.head _))
  have h3 : (⟨#[59, 32]⟩ : ByteArray).size = 2 := rfl
  have e : (acc ++ (⟨#[59, 32]⟩ : ByteArray)) ++ recS r = acc ++ (semi ++ recS r) := by apply ba_ext; simp only [ba_app, List.append_assoc]; rfl
  rw [s_l7Texts_l0, grd_pos (by omega), s_RecordText_eq (h r (.head _)), bnd1_mk, grd_pos (by rw [size_app]; omega), e]
  exact s_l7Texts_l0_eq l _ _ (fun q hq => h q (.tail _ hq)) (by rw [size_app, size_app]; show acc.size + (2 + _) + _ ≤ _; omega)
theorem i_FactText_l1_eq : ∀ (l : List Rec) (acc : ByteArray) (i : Nat), (∀ r, r ∈ l → r.sm) → acc.size + 4300000002 * l.length ≤ 9223372036854775807 → i_FactText_l1 l acc i = some (textsS acc l)
 | [], acc, i, _, _ => rfl
 | r :: l, acc, i, h, hs => by
  simp only [List.length_cons] at hs
  have h2 := recS_size (h r (.head _))
  have h3 : (⟨#[59, 32]⟩ : ByteArray).size = 2 := rfl
  rw [i_FactText_l1, i_RecordText_eq (h r (.head _)), bnd1_mk, grd_pos (by omega), grd_pos (by rw [size_app]; omega)]
  exact i_FactText_l1_eq l _ _ (fun q hq => h q (.tail _ hq)) (by rw [size_app, size_app]; show acc.size + (2 + _) + _ ≤ _; omega)
theorem slices_Grow_eq {n : Int} (h : 0 ≤ n ∧ n ≤ 1000000000) : slices_Grow_Record n = some [] := by
 unfold slices_Grow_Record
 rw [decide_eq_false (by omega), cond_false, grd_i]
 by_cases c : 0 < n - 0
 ·rw [decide_eq_true c, cond_true, grd_pos (by omega), grd_pos ⟨by omega, by omega, by omega⟩]; simp
 ·rw [decide_eq_false c]; rfl
theorem slices_Concat_eq {a b : List Rec} (ha : a.length ≤ 1048576) (hb : b.length ≤ 1048576) : slices_Concat_Record [a, b] = some (a ++ b) := by
 unfold slices_Concat_Record
 rw [slices_Concat_Record_l1, grd_i, decide_eq_false (by omega), cond_false, slices_Concat_Record_l1, grd_i, decide_eq_false (by omega), cond_false, slices_Concat_Record_l1]
 unfold slices_Concat_Record_j0
 rw [slices_Grow_eq (by omega), bnd1_mk, slices_Concat_Record_l2, List.nil_append, grd_pos (by omega), slices_Concat_Record_l2, grd_pos (by rw [List.length_append]; omega), slices_Concat_Record_l2]
def factS (x : MFact) (k : ByteArray) : ByteArray := textsS k (x.links ++ x.l)
theorem factText_same {x : MFact} (h : x.sm) : ∃ v, s_FactText x = some v ∧ i_FactText x = some v := by
 obtain ⟨⟨h1, h2⟩, h3, h4⟩ := h
 have hall : ∀ r, r ∈ x.links ++ x.l → r.sm := fun r hr => by
  rcases List.mem_append.1 hr with hr | hr
  ·exact h2 r hr
  ·exact h4 r hr
 have hkey : ∀ k : ByteArray, k.size ≤ 10 → s_FactText_j0 x k = some (factS x k) ∧ i_FactText_j0 x k = some (factS x k) := fun k hk => by
  have z1 := textsS_size x.links ⟨#[]⟩ h2
  have z2 := textsS_size x.l ⟨#[]⟩ h4
  have nz : (⟨#[]⟩ : ByteArray).size = 0 := rfl
  constructor
  ·unfold s_FactText_j0 s_l7Texts factS
   rw [s_l7Texts_l0_eq _ _ _ h2 (by omega), bnd1_mk, grd_pos (by omega), s_l7Texts_l0_eq _ _ _ h4 (by omega), bnd1_mk, grd_pos (by rw [size_app]; omega)]
   unfold textsS
   rw [List.foldl_append]
   show some ((k ++ textsS ⟨#[]⟩ x.links) ++ textsS ⟨#[]⟩ x.l) = some (textsS (textsS k x.links) x.l)
   rw [textsS_app x.l (textsS k x.links), textsS_app x.links k]
  ·unfold i_FactText_j0 factS
   rw [slices_Concat_eq h1 h3, bnd1_mk, i_FactText_l1_eq _ _ _ hall (by rw [List.length_append]; omega)]
 have k5 := hkey ⟨#[110, 111, 110, 97, 109, 101]⟩ (by show (6 : Nat) ≤ 10; omega)
 have k6 := hkey ⟨#[110, 111, 100, 97, 116, 97]⟩ (by show (6 : Nat) ≤ 10; omega)
 have k7 := hkey ⟨#[115, 101, 116]⟩ (by show (3 : Nat) ≤ 10; omega)
 unfold s_FactText i_FactText
 rw [k5.1, k5.2, k6.1, k6.2, k7.1, k7.2]
 cases x.fin
 ·exact ⟨_, rfl, rfl⟩
 ·cases decide (x.code = 3)
  ·cases decide ((x.l.length : Int) = 0) <;> exact ⟨_, rfl, rfl⟩
  ·exact ⟨_, rfl, rfl⟩
theorem uniq_rlv {l : List Rec} {n : Nat} (h : rl l n) (hn : n ≤ 1000) : ∃ m, s_l10Uniq l = some m ∧ rl m n ∧ (0 < l.length → 0 < m.length) := by
 obtain ⟨m, h1, h2, h4, h3⟩ := s_l10Uniq_p (l := l) (Nat.le_trans h.1 hn) h.2
 exact ⟨m, h1, ⟨Nat.le_trans h2 h.1, h3⟩, h4⟩
def MForest.dv (f : MForest) : Prop := f.df ∧ f.zones.length = 4 ∧ (∀ z, z ∈ f.zones → 0 < z.l.length) ∧ 0 < f.posts.length
theorem s_l12Draw_j4_v {t : Int} (t0 : 0 ≤ t) (t1 : t ≤ 1000) {a b e : List Rec} {c : Cur} {x1 x2 x3 x4 x5 x6 x7 x8 x9 y : Rec} {p : List MPost} (hc : c.inv) (ha : rl a 10) (hb : rl b 10) (he : rl e 10)
  (h1 : x1.smt) (h2 : x2.smt) (h3 : x3.smt) (h4 : x4.smt) (h5 : x5.smt) (h6 : x6.smt) (h7 : x7.smt) (h8 : x8.smt) (h9 : x9.smt) (hy : y.smt) (hp : pl p 30) (hq : 0 < p.length) :
  ∃ f d, s_l12Draw_j4 t a c.b c.i c.h b e x1 x2 x3 x4 x5 x6 x7 x8 x9 y p = some (f, d) ∧ d.inv ∧ f.dv := by
 obtain ⟨u1, g1, k1, v1⟩ := uniq_rlv (rl_app hb (rl_cons h3 rl_nil)) (by decide)
 obtain ⟨u2, g2, k2, v2⟩ := uniq_rlv (rl_app ha (rl_cons h9 (rl_cons hy rl_nil))) (by decide)
 obtain ⟨u3, g3, k3, v3⟩ := uniq_rlv (rl_app he (rl_cons h1 (rl_cons h2 (rl_cons (smt_of (a := ⟨#[97, 108, 46, 111, 114, 103]⟩) (b := ⟨#[119, 119, 119, 46, 101, 120, 46, 99, 111, 109]⟩) (c := ⟨#[]⟩) (k := 5) (t := t) (n := 0) (by decide) (by decide) (by decide) t0 t1) (rl_cons (smt_of (a := ⟨#[108, 111, 46, 111, 114, 103]⟩) (b := ⟨#[108, 111, 46, 99, 111, 109]⟩) (c := ⟨#[]⟩) (k := 5) (t := t) (n := 0) (by decide) (by decide) (by decide) t0 t1) rl_nil))))) (by decide)
 obtain ⟨u4, g4, k4, v4⟩ := uniq_rlv (rl_cons h4 (rl_cons h5 (rl_cons h6 (rl_cons h7 (rl_cons h8 rl_nil))))) (by decide)
 unfold s_l12Draw_j4
 rw [g1, bnd1_mk, g2, bnd1_mk, g3, bnd1_mk, g4, bnd1_mk]
 refine ⟨_, _, rfl, hc, ⟨by show (4 : Nat) ≤ 4; decide, fun z hz => ?_, hp⟩, rfl, fun z hz => ?_, hq⟩
 rotate_left
 ·simp only [List.mem_cons, List.not_mem_nil, or_false] at hz
  rcases hz with rfl | rfl | rfl | rfl
  ·exact v1 (by simp)
  ·exact v2 (by simp)
  ·exact v3 (by simp)
  ·exact v4 (by simp)
 simp only [List.mem_cons, List.not_mem_nil, or_false] at hz
 rcases hz with rfl | rfl | rfl | rfl
 ·exact ⟨by show (⟨#[]⟩ : ByteArray).size ≤ _; decide, rl_le k1 (by decide)⟩
 ·exact ⟨by show (⟨#[99, 111, 109]⟩ : ByteArray).size ≤ _; decide, rl_le k2 (by decide)⟩
 ·exact ⟨by show (⟨#[111, 114, 103]⟩ : ByteArray).size ≤ _; decide, rl_le k3 (by decide)⟩
 ·exact ⟨by show (⟨#[101, 120, 46, 99, 111, 109]⟩ : ByteArray).size ≤ _; decide, rl_le k4 (by decide)⟩
theorem s_l12Draw_j3k_v {t : Int} (t0 : 0 ≤ t) (t1 : t ≤ 1000) {a b e : List Rec} {c : Cur} {p : List MPost} {s : ByteArray} (hc : c.inv) (ha : rl a 8) (hb : rl b 8) (he : rl e 4) (hp : pl p 30) (hq : 0 < p.length) (hs : s.size ≤ 1048576) :
  ∃ f d, s_l12Draw_j4 t a c.b c.i c.h b e (Rec.mk (⟨#[111, 114, 103]⟩ : ByteArray) 2 t 0 s (⟨#[]⟩ : ByteArray)) (Rec.mk (⟨#[119, 119, 119, 46, 97, 46, 111, 114, 103]⟩ : ByteArray) 1 t 9 (⟨#[]⟩ : ByteArray) (⟨#[]⟩ : ByteArray)) (Rec.mk (⟨#[111, 114, 103]⟩ : ByteArray) 2 t 0 s (⟨#[]⟩ : ByteArray)) (Rec.mk (⟨#[101, 120, 46, 99, 111, 109]⟩ : ByteArray) 6 t (IntKind.i64.wrap (Int.tdiv t 2)) (⟨#[]⟩ : ByteArray) (⟨#[]⟩ : ByteArray)) (Rec.mk (⟨#[101, 120, 46, 99, 111, 109]⟩ : ByteArray) 2 t 0 (⟨#[110, 115, 46, 101, 120, 46, 99, 111, 109]⟩ : ByteArray) (⟨#[]⟩ : ByteArray)) (Rec.mk (⟨#[110, 115, 46, 101, 120, 46, 99, 111, 109]⟩ : ByteArray) 1 t 3 (⟨#[]⟩ : ByteArray) (⟨#[]⟩ : ByteArray)) (Rec.mk (⟨#[119, 119, 119, 46, 101, 120, 46, 99, 111, 109]⟩ : ByteArray) 1 t 7 (⟨#[]⟩ : ByteArray) (⟨#[]⟩ : ByteArray)) (Rec.mk (⟨#[119, 119, 119, 46, 101, 120, 46, 99, 111, 109]⟩ : ByteArray) 1 t 8 (⟨#[]⟩ : ByteArray) (⟨#[]⟩ : ByteArray)) (Rec.mk (⟨#[101, 120, 46, 99, 111, 109]⟩ : ByteArray) 2 t 0 (⟨#[110, 115, 46, 101, 120, 46, 99, 111, 109]⟩ : ByteArray) (⟨#[]⟩ : ByteArray)) (Rec.mk (⟨#[110, 115, 46, 101, 120, 46, 99, 111, 109]⟩ : ByteArray) 1 t 3 (⟨#[]⟩ : ByteArray) (⟨#[]⟩ : ByteArray)) p = some (f, d) ∧ d.inv ∧ f.dv := by
 have sm : ∀ {a b c : ByteArray} {k n : Int}, a.size ≤ 1048576 → b.size ≤ 1048576 → c.size ≤ 1048576 → (Rec.mk a k t n b c).smt := fun h1 h2 h3 => smt_of h1 h2 h3 t0 t1
 exact s_l12Draw_j4_v t0 t1 hc (rl_le ha (by decide)) (rl_le hb (by decide)) (rl_le he (by decide)) (sm (by decide) hs (by decide)) (sm (by decide) (by decide) (by decide)) (sm (by decide) hs (by decide)) (sm (by decide) (by decide) (by decide)) (sm (by decide) (by decide) (by decide)) (sm (by decide) (by decide) (by decide)) (sm (by decide) (by decide) (by decide)) (sm (by decide) (by decide) (by decide)) (sm (by decide) (by decide) (by decide)) (sm (by decide) (by decide) (by decide)) hp hq
theorem s_l12Draw_j3_v {t : Int} (t0 : 0 ≤ t) (t1 : t ≤ 1000) {a b e : List Rec} {c : Cur} {p : List MPost} {s : ByteArray} (hc : c.inv) (ha : rl a 8) (hb : rl b 8) (he : rl e 4) (hp : pl p 8) (hs : s.size ≤ 1048576) :
  ∃ f d, s_l12Draw_j3 t p a c.b c.i c.h b e s = some (f, d) ∧ d.inv ∧ f.dv := by
 have sm : ∀ {a b c : ByteArray} {k n : Int}, a.size ≤ 1048576 → b.size ≤ 1048576 → c.size ≤ 1048576 → (Rec.mk a k t n b c).smt := fun h1 h2 h3 => smt_of h1 h2 h3 t0 t1
 unfold s_l12Draw_j3 s_l10Server s_l10Addr s_l10Start
 rw [bnd1_mk, bnd1_mk, grd_pos (by have := he.1; simp only [List.length_append, List.length_cons, List.length_nil]; omega), bnd1_mk, grd_pos (by have := hb.1; simp only [List.length_append, List.length_cons, List.length_nil]; omega), bnd1_mk, bnd1_mk, bnd1_mk, bnd1_mk, bnd1_mk, bnd1_mk, bnd1_mk, grd_pos (by have := ha.1; simp only [List.length_append, List.length_cons, List.length_nil]; omega), grd_pos (by have := (posts_two hp 4).1; simp only [List.length_append] at this ⊢; omega)]
 cases decide (s = (⟨#[110, 115, 46, 111, 114, 103]⟩ : ByteArray)) with
 | true => rw [cond_true, grd_pos (by have := (posts_two hp 4).1; omega)]; exact s_l12Draw_j3k_v t0 t1 hc ha hb he (posts_two hp 4) (by simp) hs
 | false => rw [cond_false, grd_pos (by have := (posts_two hp 3).1; omega)]; exact s_l12Draw_j3k_v t0 t1 hc ha hb he (posts_two hp 3) (by simp) hs
theorem s_l12Draw_j2_v {t : Int} (t0 : 0 ≤ t) (t1 : t ≤ 1000) {a b : List Rec} {c : Cur} {p : List MPost} (hc : c.inv) (ha : rl a 8) (hb : rl b 6) (hp : pl p 8) : ∃ f d, s_l12Draw_j2 t b p c.b c.i c.h a = some (f, d) ∧ d.inv ∧ f.dv := by
 have sm : ∀ {a b c : ByteArray} {k n : Int}, a.size ≤ 1048576 → b.size ≤ 1048576 → c.size ≤ 1048576 → (Rec.mk a k t n b c).smt := fun h1 h2 h3 => smt_of h1 h2 h3 t0 t1
 obtain ⟨o, d1, e1, h1⟩ := s_l1Once_p (n := 2) hc (by omega) (by omega)
 have q1 : (Rec.mk (⟨#[111, 114, 103]⟩ : ByteArray) 6 t (IntKind.i64.wrap (Int.tdiv t 2)) (⟨#[]⟩ : ByteArray) (⟨#[]⟩ : ByteArray)).smt := sm (by decide) (by decide) (by decide)
 have q2 : (Rec.mk (⟨#[110, 115, 46, 111, 114, 103]⟩ : ByteArray) 1 t 4 (⟨#[]⟩ : ByteArray) (⟨#[]⟩ : ByteArray)).smt := sm (by decide) (by decide) (by decide)
 unfold s_l12Draw_j2 s_l10Start s_l10Addr
 rw [bnd1_mk, show Cur.mk c.b c.i c.h = c from rfl, e1, bnd2_mk]
 cases o with
 | true => rw [cond_true]; exact s_l12Draw_j3_v t0 t1 h1 ha (rl_le hb (by decide)) (rl_le (rl_cons q1 rl_nil) (by decide)) hp (by decide)
 | false =>
  rw [cond_false, bnd1_mk, grd_pos (by simp), bnd1_mk, grd_pos (rl_g hb (rl_cons q2 rl_nil) (by decide))]
  exact s_l12Draw_j3_v t0 t1 h1 ha (rl_le (rl_app hb (rl_cons q2 rl_nil)) (by decide)) (rl_le (rl_app (rl_cons q1 rl_nil) (rl_cons q2 rl_nil)) (by decide)) hp (by decide)
theorem s_l12Draw_j1_v {t : Int} (t0 : 0 ≤ t) (t1 : t ≤ 1000) {a b : List Rec} {c : Cur} {p : List MPost} (hc : c.inv) (ha : rl a 6) (hb : rl b 6) (hp : pl p 8) : ∃ f d, s_l12Draw_j1 t b p c.b c.i c.h a = some (f, d) ∧ d.inv ∧ f.dv := by
 have sm : ∀ {a b c : ByteArray} {k n : Int}, a.size ≤ 1048576 → b.size ≤ 1048576 → c.size ≤ 1048576 → (Rec.mk a k t n b c).smt := fun h1 h2 h3 => smt_of h1 h2 h3 t0 t1
 unfold s_l12Draw_j1
 rw [show Cur.mk c.b c.i c.h = c from rfl]
 obtain ⟨s, d0, e0, h0, hs⟩ := s_l1Str_p (c := c) (l := [(⟨#[119, 119, 119, 46, 101, 120, 46, 99, 111, 109]⟩ : ByteArray), (⟨#[119, 119, 119, 46, 97, 46, 111, 114, 103]⟩ : ByteArray), (⟨#[108, 111, 46, 111, 114, 103]⟩ : ByteArray), (⟨#[110, 111, 46, 99, 111, 109]⟩ : ByteArray), (⟨#[97, 108, 46, 111, 114, 103]⟩ : ByteArray)]) hc (by decide) (by decide)
 have hss : s.size ≤ 1048576 := by
  simp only [List.mem_cons, List.not_mem_nil, or_false] at hs
  rcases hs with rfl | rfl | rfl | rfl | rfl <;> decide
 have q1 : (Rec.mk (⟨#[97, 108, 46, 99, 111, 109]⟩ : ByteArray) 5 t 0 s (⟨#[]⟩ : ByteArray)).smt := sm (by decide) hss (by decide)
 have q2 : (Rec.mk (⟨#[108, 111, 46, 99, 111, 109]⟩ : ByteArray) 5 t 0 (⟨#[108, 111, 46, 111, 114, 103]⟩ : ByteArray) (⟨#[]⟩ : ByteArray)).smt := sm (by decide) (by decide) (by decide)
 obtain ⟨o, d1, e1, h1⟩ := s_l1Once_p (n := 3) h0 (by omega) (by omega)
 rw [e0, bnd2_mk, grd_pos (rl_g ha (rl_cons q1 rl_nil) (by decide)), e1, bnd2_mk]
 cases o with
 | true =>
  rw [cond_true, grd_pos (rl_g (rl_app ha (rl_cons q1 rl_nil)) (rl_cons q2 rl_nil) (by decide))]
  exact s_l12Draw_j2_v t0 t1 h1 (rl_le (rl_app (rl_app ha (rl_cons q1 rl_nil)) (rl_cons q2 rl_nil)) (by decide)) hb hp
 | false => exact s_l12Draw_j2_v t0 t1 h1 (rl_le (rl_app ha (rl_cons q1 rl_nil)) (by decide)) hb hp
theorem s_l12Draw_j0_v {t : Int} (t0 : 0 ≤ t) (t1 : t ≤ 1000) {a b : List Rec} {c : Cur} {p : List MPost} (hc : c.inv) (ha : rl a 4) (hb : rl b 6) (hp : pl p 8) : ∃ f d, s_l12Draw_j0 t c.b c.i c.h b a p = some (f, d) ∧ d.inv ∧ f.dv := by
 have sm : ∀ {a b c : ByteArray} {k n : Int}, a.size ≤ 1048576 → b.size ≤ 1048576 → c.size ≤ 1048576 → (Rec.mk a k t n b c).smt := fun h1 h2 h3 => smt_of h1 h2 h3 t0 t1
 obtain ⟨o, d1, e1, h1⟩ := s_l1Once_p (n := 3) hc (by omega) (by omega)
 have q1 : (Rec.mk (⟨#[116, 46, 99, 111, 109]⟩ : ByteArray) 16 t 0 (⟨#[]⟩ : ByteArray) (⟨#[104, 105]⟩ : ByteArray)).smt := sm (by decide) (by decide) (by decide)
 have q2 : (Rec.mk (⟨#[98, 46, 116, 46, 99, 111, 109]⟩ : ByteArray) 1 t 40 (⟨#[]⟩ : ByteArray) (⟨#[]⟩ : ByteArray)).smt := sm (by decide) (by decide) (by decide)
 unfold s_l12Draw_j0 s_l10Addr
 rw [show Cur.mk c.b c.i c.h = c from rfl, e1, bnd2_mk]
 cases o with
 | true =>
  rw [cond_true, bnd1_mk, grd_pos (rl_g ha (rl_cons q1 (rl_cons q2 rl_nil)) (by decide))]
  exact s_l12Draw_j1_v t0 t1 h1 (rl_le (rl_app ha (rl_cons q1 (rl_cons q2 rl_nil))) (by decide)) hb hp
 | false => exact s_l12Draw_j1_v t0 t1 h1 (rl_le ha (by decide)) hb hp
theorem s_l12Draw_v {c : Cur} (hc : c.inv) : ∃ f d, s_l12Draw c = some (f, d) ∧ d.inv ∧ f.dv := by
 obtain ⟨t, d1, e1, h1, ht⟩ := s_l1Int_p (l := [3, 20, 300]) hc (by decide) (by decide)
 obtain ⟨t0, t1⟩ : 0 ≤ t ∧ t ≤ 1000 := by
  simp only [List.mem_cons, List.not_mem_nil, or_false] at ht
  omega
 have sm : ∀ {a b c : ByteArray} {k n : Int}, a.size ≤ 1048576 → b.size ≤ 1048576 → c.size ≤ 1048576 → (Rec.mk a k t n b c).smt := fun h1 h2 h3 => smt_of h1 h2 h3 t0 t1
 obtain ⟨o, d2, e2, h2⟩ := s_l1Once_p (n := 2) h1 (by omega) (by omega)
 have q1 : (Rec.mk (⟨#[]⟩ : ByteArray) 6 t (IntKind.i64.wrap (Int.tdiv t 2)) (⟨#[]⟩ : ByteArray) (⟨#[]⟩ : ByteArray)).smt := sm (by decide) (by decide) (by decide)
 have q2 : (Rec.mk (⟨#[]⟩ : ByteArray) 2 t 0 (⟨#[110, 115, 46, 99, 111, 109]⟩ : ByteArray) (⟨#[]⟩ : ByteArray)).smt := sm (by decide) (by decide) (by decide)
 have q3 : (Rec.mk (⟨#[99, 111, 109]⟩ : ByteArray) 2 t 0 (⟨#[110, 115, 46, 99, 111, 109]⟩ : ByteArray) (⟨#[]⟩ : ByteArray)).smt := sm (by decide) (by decide) (by decide)
 have q4 : ∀ n, (Rec.mk (⟨#[110, 115, 46, 99, 111, 109]⟩ : ByteArray) 1 t n (⟨#[]⟩ : ByteArray) (⟨#[]⟩ : ByteArray)).smt := fun n => sm (by decide) (by decide) (by decide)
 have q5 : (Rec.mk (⟨#[99, 111, 109]⟩ : ByteArray) 6 t (IntKind.i64.wrap (Int.tdiv t 2)) (⟨#[]⟩ : ByteArray) (⟨#[]⟩ : ByteArray)).smt := sm (by decide) (by decide) (by decide)
 have q6 : (Rec.mk (⟨#[99, 111, 109]⟩ : ByteArray) 2 t 0 (⟨#[110, 115, 46, 99, 111, 109]⟩ : ByteArray) (⟨#[]⟩ : ByteArray)).smt := sm (by decide) (by decide) (by decide)
 have p0 : ∀ k, (MPost.mk k (⟨#[]⟩ : ByteArray)).sm := fun k => by show (⟨#[]⟩ : ByteArray).size ≤ _; decide
 have p1 : ∀ k, (MPost.mk k (⟨#[99, 111, 109]⟩ : ByteArray)).sm := fun k => by show (⟨#[99, 111, 109]⟩ : ByteArray).size ≤ _; decide
 have pp : ∀ k, pl [MPost.mk k (⟨#[]⟩ : ByteArray), MPost.mk k (⟨#[99, 111, 109]⟩ : ByteArray)] 2 := fun k => pl_cons (p0 k) (pl_cons (p1 k) pl_nil)
 unfold s_l12Draw s_l10Start s_l10Server s_l10Addr
 rw [e1, bnd2_mk]
 simp only [bnd1_mk]
 rw [e2, bnd2_mk]
 cases o with
 | true =>
  rw [cond_true, grd_pos (by simp), grd_pos (by simp), grd_pos (by simp)]
  exact s_l12Draw_j0_v t0 t1 h2 (rl_app (rl_cons q5 (rl_cons q6 (rl_cons (q4 2) rl_nil))) (rl_cons (q4 12) rl_nil)) (rl_le (rl_app (rl_cons q1 (rl_cons q2 (rl_cons q3 (rl_cons (q4 2) rl_nil)))) (rl_cons (q4 12) rl_nil)) (by decide)) (pl_le (pl_app (pp 2) (pp 12)) (by decide))
 | false => exact s_l12Draw_j0_v t0 t1 h2 (rl_le (rl_cons q5 (rl_cons q6 (rl_cons (q4 2) rl_nil))) (by decide)) (rl_le (rl_cons q1 (rl_cons q2 (rl_cons q3 (rl_cons (q4 2) rl_nil)))) (by decide)) (pl_le (pp 2) (by decide))
def MForest.db (f : MForest) : Prop := f.zones.length ≤ 5 ∧ (∀ z, z ∈ f.zones → z.apex.size ≤ 1048576 ∧ z.l.length ≤ 40 ∧ ∀ r, r ∈ z.l → r.sm) ∧ f.posts.length ≤ 40 ∧ ∀ p, p ∈ f.posts → p.sm
theorem db_sm {f : MForest} (h : f.db) : f.sm := ⟨⟨Nat.le_trans h.1 (by decide), fun z hz => ⟨(h.2.1 z hz).1, Nat.le_trans (h.2.1 z hz).2.1 (by decide), (h.2.1 z hz).2.2⟩⟩, Nat.le_trans h.2.2.1 (by decide), h.2.2.2⟩
theorem df_db {f : MForest} (h : f.df) : f.db := ⟨Nat.le_trans h.1 (by decide), fun z hz => ⟨(h.2.1 z hz).1, Nat.le_trans (h.2.1 z hz).2.1 (by decide), fun r hr => ((h.2.1 z hz).2.2 r hr).1⟩, Nat.le_trans h.2.2.1 (by decide), h.2.2.2⟩
theorem db_zones {f : MForest} (h : f.db) {zs : List MZone} (hl : zs.length ≤ 5) (hm : ∀ z, z ∈ zs → z ∈ f.zones) : (MForest.mk zs f.posts).db := ⟨hl, fun z hz => h.2.1 z (hm z hz), h.2.2⟩
theorem db_set {f : MForest} (h : f.db) {z : MZone} {k : Nat} (hz : z.apex.size ≤ 1048576 ∧ z.l.length ≤ 40 ∧ ∀ r, r ∈ z.l → r.sm) : (MForest.mk (f.zones.set k z) f.posts).db := ⟨by show (f.zones.set k z).length ≤ 5; rw [List.length_set]; exact h.1, fun y hy => by
 rcases List.mem_or_eq_of_mem_set hy with h1 | rfl
 ·exact h.2.1 y h1
 ·exact hz, h.2.2⟩
theorem s_l12Any_p {c : Cur} (hc : c.inv) : ∃ r, s_l12Any c = some r ∧ r.1.db ∧ r.2.inv := by
 obtain ⟨f, d, e, hd, hf, h4, hne, hp0⟩ := s_l12Draw_v hc
 have hb := df_db hf
 obtain ⟨-, hz, hp⟩ := hf
 unfold s_l12Any
 rw [e, bnd2_mk]
 refine below_bnd hd (by omega) (by omega) fun k d2 h2 k0 k1 => below_bnd h2 (by omega) (by omega) fun x d3 h3 _ _ => ?_
 obtain ⟨z, ez, mz⟩ := idx_ok (l := f.zones) k0 k1
 refine bif_p (fun _ => ?_) fun _ => bif_p (fun _ => ?_) fun _ => bif_p (fun _ => ?_) fun _ => bif_p (fun _ => ?_) fun _ => bif_p (fun _ => ?_) fun _ => bif_p (fun _ => ?_) fun _ => bif_p (fun _ => ?_) fun _ => ⟨_, rfl, hb, h3⟩
 ·have hlen : (k.toNat - ((0 : Nat) : Int).toNat) + ((f.zones.drop (0 + (k + 1).toNat)).take ((f.zones.length : Int).toNat - (k + 1).toNat)).length ≤ f.zones.length := by
   rw [List.length_take, List.length_drop]; omega
  rw [grd_pos (by omega), grd_i, grd_pos (by omega), grd_pos hlen]
  refine ⟨_, rfl, db_zones hb ?_ fun y hy => ?_, h3⟩
  ·rw [List.length_take]; omega
  ·have hy := List.mem_of_mem_drop (List.mem_of_mem_take hy)
   rcases List.mem_append.1 hy with hy | hy
   ·rcases List.mem_append.1 hy with hy | hy
    ·exact List.mem_of_mem_take hy
    ·exact List.mem_of_mem_drop (List.mem_of_mem_take hy)
   ·exact List.mem_of_mem_drop hy
 ·rw [grd_pos (by omega)]
  refine ⟨_, rfl, ⟨hb.1, hb.2.1, ?_, fun p hp => hb.2.2.2 p (List.mem_of_mem_drop (List.mem_of_mem_take hp))⟩, h3⟩
  have := hb.2.2.1
  show (List.take _ _).length ≤ 40
  rw [List.length_take, List.length_drop]; omega
 ·refine below_bnd h3 (by omega) (by omega) fun y d5 h5 y0 y1 => ?_
  rw [grd_i]
  refine name_bnd h5 fun s d6 h6 hs => ?_
  have := hp.1
  rw [grd_pos (by rw [List.length_append]; simp; omega)]
  refine ⟨_, rfl, ⟨hb.1, hb.2.1, ?_, ?_⟩, h6⟩
  ·show (f.posts ++ [_]).length ≤ 40
   rw [List.length_append]; simp; omega
  ·show ∀ p, p ∈ f.posts ++ [MPost.mk (1 + y) s] → p.sm
   exact mem_app2 hb.2.2.2 (mem_one hs)
 ·obtain ⟨y, d5, e5, h5, hy, hyl⟩ := s_l10Any_p h3
  rw [e5, bnd2_mk, ez, bnd1_mk]
  exact ⟨_, rfl, db_set hb ⟨hy.1, by omega, hy.2.2⟩, h5⟩
 ·have h0 := hne z mz
  have hzz := hb.2.1 z mz
  rw [ez, bnd1_mk, grd_i, grd_pos (by omega)]
  refine ⟨_, rfl, db_set hb ⟨hzz.1, ?_, fun r hr => hzz.2.2 r (List.mem_of_mem_drop (List.mem_of_mem_take hr))⟩, h3⟩
  show (List.take _ _).length ≤ 40
  rw [List.length_take, List.length_drop]; omega
 ·have hzz := hz z mz
  have q1 : (Rec.mk (⟨#[110, 115, 46, 101, 120, 46, 99, 111, 109]⟩ : ByteArray) 1 60 5 (⟨#[]⟩ : ByteArray) (⟨#[]⟩ : ByteArray)).smt := smt_of (by decide) (by decide) (by decide) (by decide) (by decide)
  obtain ⟨m, g1, g2⟩ := uniq_rl (rl_app hzz.2 (rl_cons q1 rl_nil)) (by decide)
  unfold s_l10Addr
  rw [ez, bnd1_mk, bnd1_mk, grd_pos (rl_g hzz.2 (rl_cons q1 rl_nil) (by decide)), g1, bnd1_mk]
  exact ⟨_, rfl, db_set hb ⟨hzz.1, Nat.le_trans g2.1 (by decide), fun r hr => (g2.2 r hr).1⟩, h3⟩
 ·rw [ez, bnd1_mk, grd_pos (by rw [List.length_append]; simp; omega)]
  refine ⟨_, rfl, db_zones hb (by rw [List.length_append]; simp; omega) fun y hy => ?_, h3⟩
  rcases List.mem_append.1 hy with hy | hy
  ·exact hy
  ·rw [List.mem_singleton.1 hy]; exact mz
theorem s_l13Pair_p {c : Cur} (hc : c.inv) : ∃ f q d, s_l13Pair c = some (f, q, d) ∧ f.db ∧ q.sm ∧ d.inv := by
 obtain ⟨⟨f, d⟩, e, hf, hd⟩ := s_l12Any_p hc
 obtain ⟨⟨q, d2⟩, e2, hq, h2⟩ : ∃ r, s_l12Quest d = some r ∧ r.1.sm ∧ r.2.inv := by
  unfold s_l12Quest
  exact name_bnd hd fun x d hd hx => int_bnd hd rfl rfl fun t d hd _ => ⟨_, rfl, hx, hd⟩
 unfold s_l13Pair
 rw [e, bnd2_mk, e2, bnd2_mk]
 exact ⟨f, q, d2, rfl, hf, hq, h2⟩
theorem linkAt_db {f : MForest} (hf : f.db) (q : Quest) : (linkAt f q).2.length ≤ 40 := by
 unfold linkAt
 rcases zoneOf_at f q.name with ⟨h1, h2⟩ | ⟨h1, z, h2, h3, h4⟩
 ·rw [h2]; exact Nat.zero_le _
 ·rw [h3]
  have h5 := (hf.2.1 z h4).2.1
  show (answerIn z q).length ≤ 40
  unfold answerIn
  cases decide (kindIn z q = 2)
  ·cases decide (kindIn z q = 3)
   ·exact Nat.zero_le _
   ·exact Nat.le_trans (setOf_len _ _ _) h5
  ·exact Nat.le_trans (setOf_len _ _ _) h5
def MFact.fb (x : MFact) : Prop := (x.links.length ≤ 6 ∧ ∀ r, r ∈ x.links → r.sm) ∧ (x.l.length ≤ 40 ∧ ∀ r, r ∈ x.l → r.sm) ∧ 0 ≤ x.code ∧ x.code ≤ 3
theorem noFact_fb : noFact.fb := ⟨⟨Nat.zero_le _, fun r hr => by cases hr⟩, ⟨Nat.zero_le _, fun r hr => by cases hr⟩, by decide, by decide⟩
theorem factL_fb {f : MForest} (hf : f.db) (ty : Int) : ∀ (n : Nat) (s : ByteArray) (ls : List Rec), ls.length ≤ 6 → (∀ r, r ∈ ls → r.sm) → (factL f ty n s ls).fb
 | 0, _, _, _, _ => noFact_fb
 | n + 1, s, ls, h, hs => by
  unfold factL
  have h3 := linkAt_sm (db_sm hf) ⟨s, ty⟩
  have h4 := linkAt_db hf ⟨s, ty⟩
  generalize linkAt f ⟨s, ty⟩ = x at h3 h4
  obtain ⟨k, l⟩ := x
  simp only at h3 h4 ⊢
  have c00 : (0 : Int) ≤ 0 ∧ (0 : Int) ≤ 3 := by decide
  have c03 : (0 : Int) ≤ 3 ∧ (3 : Int) ≤ 3 := by decide
  have he : ([] : List Rec).length ≤ 40 ∧ ∀ r, r ∈ ([] : List Rec) → r.sm := ⟨Nat.zero_le _, fun r hr => by cases hr⟩
  split
  ·split
   ·exact noFact_fb
   ·rename_i c6
    cases l with
    | nil => exact noFact_fb
    | cons x t => exact factL_fb hf ty n x.host (ls ++ [x]) (by simp; omega) (mem_app2 hs (mem_one (h3.2 x (.head _))))
  ·split
   ·exact ⟨⟨h, hs⟩, ⟨h4, h3.2⟩, c00.1, c00.2⟩
   ·split
    ·exact ⟨⟨h, hs⟩, he, c00.1, c00.2⟩
    ·split
     ·exact ⟨⟨h, hs⟩, he, c03.1, c03.2⟩
     ·exact noFact_fb
theorem fb_sm {x : MFact} (h : x.fb) : x.sm := ⟨⟨Nat.le_trans h.1.1 (by decide), h.1.2⟩, Nat.le_trans h.2.1.1 (by decide), h.2.1.2⟩
theorem setTtl_sm {k : Int} (hk : i64 k) {l : List Rec} (h : ∀ r, r ∈ l → r.sm) : ∀ r, r ∈ l.map (setTtl k) → r.sm := fun r hr => by
 obtain ⟨y, hy, rfl⟩ := List.mem_map.1 hr
 exact h y hy
theorem s_l13Bent_p {c : Cur} {x : MFact} (hc : c.inv) (hx : x.fb) : ∃ r, s_l13Bent c x = some r ∧ r.1.sm := by
 obtain ⟨⟨l1, l2⟩, ⟨m1, m2⟩, c0, c1⟩ := hx
 have w2 := setTtl_sm (k := 1) (by simp only [i64]; omega) m2
 have w1 : (x.l.map (setTtl 1)).length ≤ 40 := by rw [List.length_map]; exact m1
 have sl : smL x.links := ⟨by omega, l2⟩
 have sw : smL (x.l.map (setTtl 1)) := ⟨by omega, w2⟩
 unfold s_l13Bent
 rw [s_l7Copy_eq (by omega), bnd1_mk, s_WithTtl_eq (by omega), bnd1_mk]
 refine below_bnd hc (by omega) (by omega) fun k d hd _ _ => ?_
 refine bif_p (fun _ => ?_) fun _ => bif_p (fun _ => ?_) fun _ => bif_p (fun _ => ?_) fun _ => bif_p (fun _ => ?_) fun _ => ⟨_, rfl, sl, sw⟩
 ·rw [grd_i]
  exact ⟨_, rfl, sl, sw⟩
 ·exact ⟨_, rfl, sl, sw⟩
 ·refine rec_bnd hd fun y d2 h2 hy => ?_
  rw [grd_pos (by rw [List.length_append]; simp only [List.length_cons, List.length_nil]; omega)]
  exact ⟨_, rfl, sl, by show (x.l.map (setTtl 1) ++ [y]).length ≤ _; rw [List.length_append]; simp only [List.length_cons, List.length_nil]; omega, mem_app2 w2 (mem_one hy)⟩
 ·refine rec_bnd hd fun y d2 h2 hy => ?_
  rw [grd_pos (by rw [List.length_append]; simp only [List.length_cons, List.length_nil]; omega)]
  exact ⟨_, rfl, ⟨by show (x.links ++ [y]).length ≤ _; rw [List.length_append]; simp only [List.length_cons, List.length_nil]; omega, mem_app2 l2 (mem_one hy)⟩, sw⟩
theorem s_DrawSameFact_p {p : List Int} (hp : p.length ≤ 1048576) : ∃ a b, s_DrawSameFact p = some (a, b) ∧ a.sm ∧ b.sm := by
 obtain ⟨c, e, hc⟩ := s_l1New_p hp
 obtain ⟨f, q, d, e2, hf, hq, hd⟩ := s_l13Pair_p hc
 have hfb : (factOf f q).fb := factL_fb hf q.ty 7 q.name [] (by decide) (fun r hr => by cases hr)
 obtain ⟨⟨b, d3⟩, e3, hb⟩ := s_l13Bent_p hd hfb
 unfold s_DrawSameFact
 rw [e, bnd1_mk, e2, bnd3_mk, s_FactOf_eq (db_sm hf) hq, bnd1_mk, e3, bnd2_mk]
 exact ⟨_, _, rfl, fb_sm hfb, hb⟩
theorem s_DrawLinkAt_p {p : List Int} (hp : p.length ≤ 1048576) : ∃ f q, s_DrawLinkAt p = some (f, q) ∧ f.sm ∧ q.sm := by
 obtain ⟨c, e, hc⟩ := s_l1New_p hp
 obtain ⟨f, q, d, e2, hf, hq, hd⟩ := s_l13Pair_p hc
 unfold s_DrawLinkAt
 rw [e, bnd1_mk, e2, bnd3_mk]
 exact ⟨_, _, rfl, db_sm hf, hq⟩
theorem s_DrawNoLater_j0_p {c : Cur} {a b : List Rec} (hc : c.inv) (ha : a.length ≤ 10) (hb : b.length ≤ 10) : ∃ r, s_DrawNoLater_j0 b c.b c.i c.h a = some r ∧ r.1.length ≤ 11 ∧ r.2.length ≤ 11 := by
 unfold s_DrawNoLater_j0
 refine once_bnd hc (by omega) (by omega) fun o d hd => bif_p (fun _ => ?_) fun _ => ⟨_, rfl, by show a.length ≤ _; omega, by show b.length ≤ _; omega⟩
 refine rec_bnd hd fun y d2 h2 hy => ?_
 rw [grd_pos (by rw [List.length_append]; simp only [List.length_cons, List.length_nil]; omega)]
 exact ⟨_, rfl, by show (a ++ [y]).length ≤ _; rw [List.length_append]; simp only [List.length_cons, List.length_nil]; omega, by show b.length ≤ _; omega⟩
theorem s_DrawNoLater_j1_p {c : Cur} {a b : List Rec} {o : Bool} (hc : c.inv) (ha : a.length ≤ 10) (hb : b.length ≤ 10) (ho : o = true → 0 < a.length) : ∃ r, s_DrawNoLater_j1 b a c.b c.i c.h o = some r ∧ r.1.length ≤ 11 ∧ r.2.length ≤ 11 := by
 unfold s_DrawNoLater_j1
 refine bif_p (fun h => ?_) fun _ => s_DrawNoLater_j0_p hc ha hb
 have h0 := ho h
 refine int_bnd hc rfl rfl fun t d hd _ => ?_
 obtain ⟨y, ey, my⟩ := idx_ok (l := a) (i := 0) (by omega) (by omega)
 rw [ey, bnd1_mk]
 refine below_bnd hd (by omega) (by omega) fun k d2 h2 k0 k1 => ?_
 rw [grd_i, grd_pos (by omega)]
 exact s_DrawNoLater_j0_p h2 (by rw [List.length_take, List.length_drop, List.length_set]; omega) hb
theorem s_DrawNoLater_p {p : List Int} (hp : p.length ≤ 1048576) : ∃ a b, s_DrawNoLater p = some (a, b) ∧ b.length ≤ 11 := by
 obtain ⟨c, e, hc⟩ := s_l1New_p hp
 have : ∃ r, s_DrawNoLater p = some r ∧ r.1.length ≤ 11 ∧ r.2.length ≤ 11 := by
  unfold s_DrawNoLater
  rw [e, bnd1_mk]
  refine near_bnd hc fun b d hd hb hs => ?_
  rw [s_l7Copy_eq (by omega), bnd1_mk]
  refine bif_p (fun h => ?_) fun _ => s_DrawNoLater_j1_p hd (by omega) (by omega) (fun h => by cases h)
  have h0 := of_decide_eq_true h
  exact once_bnd hd (by omega) (by omega) fun o d2 h2 => s_DrawNoLater_j1_p h2 (by omega) (by omega) (fun _ => by omega)
 obtain ⟨⟨a, b⟩, e2, -, h2⟩ := this
 exact ⟨a, b, e2, h2⟩
def nlR (e x : Rec) : Bool := (decide (x.name = e.name) && (decide (x.ty = e.ty) && (decide (e.ttl = e.ttl) && (decide (x.n = e.n) && (decide (x.host = e.host) && (decide (x.text = e.text) && true)))))) && decide (e.ttl ≤ x.ttl)
def noLater (a b : List Rec) : Bool := a.all fun e => b.any (nlR e)
theorem i_NoLater_l0_eq {b : List Rec} : ∀ (a : List Rec) (i : Nat), i_NoLater_l0 b a i = some (noLater a b)
 | [], _ => rfl
 | e :: a, i => by
  rw [i_NoLater_l0, slices_ContainsFunc_Record_eq (p := nlR e) fun r _ => ?_, bnd1_mk, i_NoLater_l0_eq a (i + 1)]
  ·unfold noLater
   rw [List.all_cons]
   cases b.any (nlR e) <;> rfl
  ·unfold i_NoLater_1 nlR
   generalize (decide (r.name = e.name) && (decide (r.ty = e.ty) && (decide (e.ttl = e.ttl) && (decide (r.n = e.n) && (decide (r.host = e.host) && (decide (r.text = e.text) && true)))))) = v
   cases v <;> rfl
theorem i_NoLater_eq {a b : List Rec} : i_NoLater a b = some (noLater a b) := i_NoLater_l0_eq a 0
theorem s_NoLater_l2_eq {e : Rec} {i : Nat} {k : Nat → Option Bool} : ∀ (b : List Rec) (o : Bool) (j : Nat), s_NoLater_l2 i e k b o j = s_NoLater_j1 i k (o || b.any (nlR e))
 | [], o, j => by rw [s_NoLater_l2, List.any_nil, Bool.or_false]
 | x :: b, o, j => by
  have h1 := s_NoLater_l2_eq (e := e) (i := i) (k := k) b true (j + 1)
  have h2 := s_NoLater_l2_eq (e := e) (i := i) (k := k) b (decide (e.ttl ≤ x.ttl)) (j + 1)
  have h3 := s_NoLater_l2_eq (e := e) (i := i) (k := k) b false (j + 1)
  rw [s_NoLater_l2, h1, h2, h3, List.any_cons]
  unfold nlR
  generalize (decide (x.name = e.name) && (decide (x.ty = e.ty) && (decide (e.ttl = e.ttl) && (decide (x.n = e.n) && (decide (x.host = e.host) && (decide (x.text = e.text) && true)))))) = v
  cases o <;> cases v <;> simp
theorem s_NoLater_l0_eq {b : List Rec} : ∀ (a : List Rec) (i : Nat), s_NoLater_l0 b a i = some (noLater a b)
 | [], _ => rfl
 | e :: a, i => by
  rw [s_NoLater_l0, s_NoLater_l2_eq]
  unfold s_NoLater_j1
  rw [s_NoLater_l0_eq a (i + 1), Bool.false_or]
  unfold noLater
  rw [List.all_cons]
  cases b.any (nlR e) <;> rfl
theorem s_NoLater_eq {a b : List Rec} : s_NoLater a b = some (noLater a b) := s_NoLater_l0_eq a 0
theorem nlR_self (e : Rec) : nlR e e = true := by unfold nlR; simp
theorem noLater_self (a : List Rec) : noLater a a = true := List.all_eq_true.2 fun e he => List.any_eq_true.2 ⟨e, he, nlR_self e⟩
theorem noLater_ttl (a : List Rec) : noLater (a.map (setTtl 0)) (a.map (setTtl 1)) = true := List.all_eq_true.2 fun e he => by
 obtain ⟨r, hr, rfl⟩ := List.mem_map.1 he
 refine List.any_eq_true.2 ⟨setTtl 1 r, List.mem_map.2 ⟨r, hr, rfl⟩, ?_⟩
 unfold nlR setTtl; simp
theorem sameFact_self (x : MFact) : sameFact x x = true := by
 unfold sameFact
 simp [within_self]
theorem sameFact_symm (x y : MFact) : sameFact x y = sameFact y x := by
 unfold sameFact
 rw [Bool.and_comm (within x.l y.l)]
 have e1 : decide (x.code = y.code) = decide (y.code = x.code) := decide_eq_decide.2 ⟨Eq.symm, Eq.symm⟩
 have e2 : (x.fin == y.fin) = (y.fin == x.fin) := by cases x.fin <;> cases y.fin <;> rfl
 have e3 : decide (x.links.map zt = y.links.map zt) = decide (y.links.map zt = x.links.map zt) := decide_eq_decide.2 ⟨Eq.symm, Eq.symm⟩
 rw [e1, e2, e3]
theorem law_FnFactsSame {p : List Int} {h : Prop} (_ : h) : w_FnFactsSame p = some true := by
 unfold w_FnFactsSame
 rw [w_big_eq, bnd1_mk]
 by_cases c0 : 1048576 < (p.length : Int)
 ·rw [decide_eq_true c0]; rfl
 have hb : p.length ≤ 1048576 := by omega
 obtain ⟨a, b, e1, ha, hb2⟩ := s_DrawSameFact_p hb
 obtain ⟨l, m, e2, hm⟩ := s_DrawNoLater_p hb
 obtain ⟨f, q, e3, hf, hq⟩ := s_DrawLinkAt_p hb
 obtain ⟨v, t1, t2⟩ := factText_same hb2
 rw [decide_eq_false c0, cond_false, e1, bnd2_mk, e2, bnd2_mk, e3, bnd2_mk, i_LinkAt_eq hf hq, s_LinkAt_eq hf hq]
 generalize linkAt f q = x
 obtain ⟨k, r⟩ := x
 rw [bnd2_mk, bnd2_mk, i_SameFact_eq ha hb2, bnd1_mk, s_SameFact_eq, bnd1_mk, beq_self_eq_true, Bool.not_true, cond_false, i_NoLater_eq, bnd1_mk, s_NoLater_eq, bnd1_mk, beq_self_eq_true, Bool.not_true, cond_false, decide_eq_true rfl, Bool.not_true, cond_false, w_sameRecs_self, bnd1_mk, Bool.not_true, cond_false, t2, bnd1_mk, t1, bnd1_mk, decide_eq_true rfl, Bool.not_true]
 unfold w_FnFactsSame_j0
 rw [cond_false, i_SameFact_eq ha ha, bnd1_mk, sameFact_self, cond_true, i_SameFact_eq ha hb2, bnd1_mk, i_SameFact_eq hb2 ha, bnd1_mk, sameFact_symm b a, beq_self_eq_true, cond_true, i_NoLater_eq, bnd1_mk, noLater_self, cond_true, i_WithTtl_eq (by omega), bnd1_mk, i_WithTtl_eq (by omega), bnd1_mk, i_NoLater_eq, bnd1_mk, noLater_ttl]
end Go.Abs.M
