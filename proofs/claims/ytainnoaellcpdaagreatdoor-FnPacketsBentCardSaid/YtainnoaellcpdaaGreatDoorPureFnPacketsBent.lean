/- The pure law of FnPacketsBent: its pure function answers true. -/
import Derived.Test.YtainnoaellcpdaaGreatDoorFnsFnPacketsBent
set_option linter.unusedSimpArgs false
set_option linter.unusedVariables false
namespace Go.Abs.M
open Go Go.Abs
theorem grd_i {α : Type} {x : Int} {y : Option α} (h : -9223372036854775808 ≤ x ∧ x < 9223372036854775808 := by omega) : grd (i64 x) y = y := grd_pos h
theorem idx_nat {α : Type} {l : List α} {n : Nat} : idx l (n : Int) = l[n]? := by simp [idx]
def zrec : Rec := ⟨⟨#[]⟩, 0, 0, 0, ⟨#[]⟩, ⟨#[]⟩⟩
def first (p : Rec → Bool) (l : List Rec) : Rec := (l.find? p).getD zrec
def Rec.sm (r : Rec) : Prop := r.name.size ≤ 1048576 ∧ r.host.size ≤ 1048576 ∧ r.text.size ≤ 1048576
def smL (l : List Rec) : Prop := l.length ≤ 1048576 ∧ ∀ r, r ∈ l → r.sm
def Quest.sm (q : Quest) : Prop := q.name.size ≤ 1048576
def MMsg.sm (m : MMsg) : Prop := m.q.sm ∧ smL m.an ∧ smL m.au ∧ smL m.ad
def mkB (l : List UInt8) : ByteArray := ⟨l.toArray⟩
def bts (s : ByteArray) : List UInt8 := s.data.toList
theorem bts_mkB (l : List UInt8) : bts (mkB l) = l := rfl
theorem mkB_bts (s : ByteArray) : mkB (bts s) = s := rfl
theorem bts_len (s : ByteArray) : (bts s).length = s.size := rfl
theorem bts_inj {a b : ByteArray} : bts a = bts b ↔ a = b := ⟨fun h => by rw [← mkB_bts a, ← mkB_bts b, h], fun h => by rw [h]⟩
theorem bts_nil_iff (s : ByteArray) : s = ⟨#[]⟩ ↔ bts s = [] := ⟨fun h => by subst h; rfl, fun h => bts_inj.1 (by rw [h]; rfl)⟩
theorem bts_extract (s : ByteArray) (a b : Nat) : bts (s.extract a b) = ((bts s).drop a).take (b - a) := by
 unfold bts
 rw [ByteArray.data_extract, Array.toList_extract, List.extract_eq_take_drop]
theorem extract_mkB (s : ByteArray) (a b : Nat) : s.extract a b = mkB (((bts s).drop a).take (b - a)) := by
 rw [← mkB_bts (s.extract a b), bts_extract]
theorem sidx_nat {s : ByteArray} {n : Nat} {b : UInt8} (h : (bts s)[n]? = some b) : sidx s (n : Int) = some (b.toNat : Int) := by
 obtain ⟨h1, h2⟩ := List.getElem?_eq_some_iff.1 h
 have h3 : n < s.size := h1
 unfold sidx
 rw [dif_pos ⟨by omega, by simpa using h3⟩]
 subst h2
 rfl
def segs : List UInt8 → List UInt8 → List (List UInt8)
 | cur, [] => [cur]
 | cur, b :: l => if b = 46 then cur :: segs [] l else segs (cur ++ [b]) l
def labels (s : ByteArray) : List ByteArray := if bts s = [] then [] else (segs [] (bts s)).map mkB
theorem segs_len : ∀ (l cur : List UInt8), (segs cur l).length ≤ l.length + 1
 | [], cur => by simp [segs]
 | b :: l, cur => by
  unfold segs
  split
  ·have := segs_len l []; simp; omega
  ·have := segs_len l (cur ++ [b]); simp; omega
theorem labels_len (s : ByteArray) : (labels s).length ≤ s.size + 1 := by
 unfold labels
 split
 ·simp
 ·have := segs_len (bts s) []
  rw [bts_len] at this
  simpa using this
theorem u8_eq46 (b : UInt8) : ((b.toNat : Int) = 46) ↔ b = 46 := by
 constructor
 ·intro h
  have : b.toNat = 46 := by omega
  exact UInt8.toNat_inj.1 this
 ·intro h; subst h; rfl
theorem s_Labels_l0_eq (s : ByteArray) (hs : s.size ≤ 1048576) (hne : s ≠ ⟨#[]⟩) : ∀ (k : Nat) (i f fl : Nat) (out : List ByteArray), s.size - i = k → f ≤ i → i ≤ s.size → out.length ≤ f → k + 1 < fl →
  s_Labels_l0 s fl out (f : Int) (i : Int) = some (out ++ (segs (((bts s).drop f).take (i - f)) ((bts s).drop i)).map mkB)
 | 0, i, f, fl, out, hk, hfi, hi, ho, hfl => by
  obtain ⟨fl, rfl⟩ : ∃ q, fl = q + 1 := ⟨fl - 1, by omega⟩
  obtain ⟨fl, rfl⟩ : ∃ q, fl = q + 1 := ⟨fl - 1, by omega⟩
  have hie : i = s.size := by omega
  rw [s_Labels_l0]
  have e1 : (bts s).drop i = [] := List.drop_eq_nil_of_le (by rw [bts_len]; omega)
  rw [e1]
  simp only [segs, List.map_cons, List.map_nil]
  have c1 : decide ((i : Int) ≤ (s.size : Int)) = true := by simpa using hi
  have c2 : (!decide (s = (⟨#[]⟩ : ByteArray))) = true := by simpa using hne
  rw [c1, c2, cond_true, s_Labels_j1, cond_true]
  have c3 : decide ((i : Int) = (s.size : Int)) = true := by simp [hie]
  rw [c3, cond_true, s_Labels_j2, cond_true, grd_pos (by omega), grd_pos (by simp; omega), grd_i, grd_i, s_Labels_l0]
  have c4 : decide ((i : Int) + 1 ≤ (s.size : Int)) = false := by simp; omega
  rw [c4, cond_false, s_Labels_j1, cond_false, extract_mkB]
  simp
 | k + 1, i, f, fl, out, hk, hfi, hi, ho, hfl => by
  obtain ⟨fl, rfl⟩ : ∃ q, fl = q + 1 := ⟨fl - 1, by omega⟩
  have hlt : i < (bts s).length := by rw [bts_len]; omega
  rw [s_Labels_l0]
  have c1 : decide ((i : Int) ≤ (s.size : Int)) = true := by simpa using hi
  have c2 : (!decide (s = (⟨#[]⟩ : ByteArray))) = true := by simpa using hne
  rw [c1, c2, cond_true, s_Labels_j1, cond_true]
  have c3 : decide ((i : Int) = (s.size : Int)) = false := by simp; omega
  have hb : (bts s)[i]? = some (bts s)[i] := List.getElem?_eq_getElem hlt
  rw [c3, cond_false, sidx_nat hb, bnd1_mk, List.drop_eq_getElem_cons hlt, segs]
  have e2 : ((i : Int) + 1) = ((i + 1 : Nat) : Int) := by omega
  by_cases c : (bts s)[i] = 46
  ·rw [if_pos c]
   have c5 : decide ((((bts s)[i]).toNat : Int) = 46) = true := by simpa using (u8_eq46 _).2 c
   rw [c5, s_Labels_j2, cond_true, grd_pos (by omega), grd_pos (by simp; omega), grd_i, grd_i, e2,
    s_Labels_l0_eq s hs hne k (i + 1) (i + 1) fl _ (by omega) (by omega) (by omega) (by simp; omega) (by omega), extract_mkB]
   simp
  ·rw [if_neg c]
   have c5 : decide ((((bts s)[i]).toNat : Int) = 46) = false := by
    have := fun h => c ((u8_eq46 _).1 h)
    simpa using this
   rw [c5, s_Labels_j2, cond_false, grd_i, e2, s_Labels_l0_eq s hs hne k (i + 1) f fl _ (by omega) (by omega) (by omega) ho (by omega)]
   have e3 : ((bts s).drop f).take (i + 1 - f) = ((bts s).drop f).take (i - f) ++ [(bts s)[i]] := by
    rw [show i + 1 - f = (i - f) + 1 by omega, List.take_add_one]
    congr 1
    rw [List.getElem?_drop, show f + (i - f) = i by omega, hb]
    rfl
   rw [e3]
theorem s_Labels_eq {s : ByteArray} (hs : s.size ≤ 1048576) : s_Labels s = some (labels s) := by
 unfold s_Labels
 by_cases hne : s = ⟨#[]⟩
 ·subst hne
  have : fuel0 = 4611686018427387903 + 1 := rfl
  rw [this, s_Labels_l0]
  rfl
 ·have h := s_Labels_l0_eq s hs hne s.size 0 0 fuel0 [] (by omega) (by omega) (by omega) (by simp) (by unfold fuel0; omega)
  have e : bts s ≠ [] := fun h => hne ((bts_nil_iff s).2 h)
  simpa [labels, e] using h
theorem indexByte_none : ∀ {l : List UInt8}, Lib.indexByte l 46 = -1 → ∀ cur, segs cur l = [cur ++ l]
 | [], _, cur => by simp [segs]
 | b :: l, h, cur => by
  unfold Lib.indexByte at h
  by_cases c : b = 46
  ·subst c; simp at h
  ·have hb : (b == (46 : UInt8)) = false := by simpa using c
   rw [hb] at h
   simp only [Bool.false_eq_true, if_false] at h
   by_cases c' : Lib.indexByte l 46 = -1
   ·rw [segs, if_neg c, indexByte_none c']; simp
   ·have h1 := Lib.indexByte_ge l 46
    rw [if_neg (by simpa using c')] at h
    omega
theorem indexByte_some : ∀ {l : List UInt8} {k : Nat}, Lib.indexByte l 46 = (k : Int) → k < l.length ∧ ∀ cur, segs cur l = (cur ++ l.take k) :: segs [] (l.drop (k + 1))
 | [], k, h => by simp [Lib.indexByte] at h
 | b :: l, k, h => by
  unfold Lib.indexByte at h
  by_cases c : b = 46
  ·subst c
   simp at h
   have : k = 0 := by omega
   subst this
   exact ⟨by simp, fun cur => by simp [segs]⟩
  ·have hb : (b == (46 : UInt8)) = false := by simpa using c
   rw [hb] at h
   simp only [Bool.false_eq_true, if_false] at h
   have h1 := Lib.indexByte_ge l 46
   by_cases c' : Lib.indexByte l 46 = -1
   ·rw [if_pos (by simpa using c')] at h; omega
   ·rw [if_neg (by simpa using c')] at h
    obtain ⟨q, rfl⟩ : ∃ q, k = q + 1 := ⟨k - 1, by omega⟩
    obtain ⟨h2, h3⟩ := indexByte_some (l := l) (k := q) (by omega)
    exact ⟨by simp; omega, fun cur => by rw [segs, if_neg c, h3]; simp⟩
theorem count_segs : ∀ (l cur : List UInt8), (segs cur l).length = Lib.countByte l 46 + 1
 | [], cur => by simp [segs, Lib.countByte]
 | b :: l, cur => by
  unfold segs
  by_cases c : b = 46
  ·subst c; rw [if_pos rfl, List.length_cons, count_segs l []]; simp [Lib.countByte]
  ·rw [if_neg c, count_segs l]; simp [Lib.countByte, c]
theorem dotB : (⟨#[46]⟩ : ByteArray).size = 1 := rfl
theorem dot_sidx : sidx (⟨#[46]⟩ : ByteArray) 0 = some 46 := rfl
theorem strings_Index_dot {s : ByteArray} : strings_Index s ⟨#[46]⟩ = some (if s = ⟨#[46]⟩ then 0 else Lib.indexByte (bts s) 46) := by
 unfold strings_Index internal_stringslite_Index
 rw [dotB]
 by_cases c : s = ⟨#[46]⟩
 ·subst c; simp [internal_stringslite_Index_j0]
 ·have c' : ¬ ((⟨#[46]⟩ : ByteArray) = s) := fun h => c h.symm
  simp [internal_stringslite_Index_j0, c, c', dotB, dot_sidx, internal_stringslite_IndexByte]
  rfl
theorem strings_Index_dot' {s : ByteArray} : strings_Index s ⟨#[46]⟩ = some (Lib.indexByte (bts s) 46) := by
 rw [strings_Index_dot]
 by_cases c : s = ⟨#[46]⟩
 ·subst c; rfl
 ·rw [if_neg c]
theorem segs_pos (cur l : List UInt8) : 1 ≤ (segs cur l).length := by rw [count_segs]; omega
theorem idx_cases (l : List UInt8) : Lib.indexByte l 46 = -1 ∨ ∃ k : Nat, Lib.indexByte l 46 = (k : Int) := by
 have h := Lib.indexByte_ge l 46
 rcases Int.lt_or_le (Lib.indexByte l 46) 0 with h1 | h1
 ·exact .inl (by omega)
 ·exact .inr ⟨(Lib.indexByte l 46).toNat, by omega⟩
theorem genSplit_j1_eq {r : ByteArray} {a : List ByteArray} {i : Nat} (hi : i < a.length) (ha : a.length ≤ 1099511627776) : strings_genSplit_j1 r a (i : Int) = some (a.take i ++ [r]) := by
 unfold strings_genSplit_j1
 rw [idx_nat, List.getElem?_eq_getElem hi, bnd1_mk, grd_i, grd_pos (by omega)]
 congr 1
 have e : ((i : Int) + 1).toNat - ((0 : Nat) : Int).toNat = i + 1 := by omega
 have e2 : (0 + ((0 : Nat) : Int).toNat) = 0 := by omega
 rw [e, e2, List.drop_zero, Int.toNat_natCast, List.take_add_one, List.take_set_of_le (Nat.le_refl i), List.getElem?_set_self hi]
 rfl
theorem genSplit_l2_eq (p0 : ByteArray) (j : Int) (n : Nat) (hj : (if (p0.size : Int) + 1 < j then (p0.size : Int) + 1 else j) - 1 = (n : Int)) : ∀ (k i fl : Nat) (r : ByteArray) (a : List ByteArray), n - i = k → i ≤ n → k < fl → a.length = n + 1 → a.length ≤ 1099511627776 → (segs [] (bts r)).length = n + 1 - i → r.size ≤ 1048576 →
  strings_genSplit_l2 p0 ⟨#[46]⟩ 0 j fl r a (i : Int) = some (a.take i ++ (segs [] (bts r)).map mkB)
 | 0, i, fl, r, a, hk, hi, hf, ha, ha', hs, hr => by
  obtain ⟨fl, rfl⟩ : ∃ q, fl = q + 1 := ⟨fl - 1, by omega⟩
  have hin : i = n := by omega
  rw [strings_genSplit_l2, hj]
  have c : decide ((i : Int) < (n : Int)) = false := by simp; omega
  rw [c, cond_false, genSplit_j1_eq (by omega) ha']
  rcases idx_cases (bts r) with h | ⟨q, h⟩
  ·rw [indexByte_none h]; rfl
  ·have h1 := (indexByte_some h).2 []
   have h2 := segs_pos [] ((bts r).drop (q + 1))
   rw [h1] at hs
   simp only [List.length_cons] at hs
   omega
 | k + 1, i, fl, r, a, hk, hi, hf, ha, ha', hs, hr => by
  obtain ⟨fl, rfl⟩ : ∃ q, fl = q + 1 := ⟨fl - 1, by omega⟩
  rw [strings_genSplit_l2, hj]
  have c : decide ((i : Int) < (n : Int)) = true := by simp; omega
  rw [c, cond_true, strings_Index_dot', bnd1_mk]
  rcases idx_cases (bts r) with h | ⟨q, h⟩
  ·rw [indexByte_none h] at hs
   simp at hs
   omega
  ·obtain ⟨h1, h2⟩ := indexByte_some h
   have h2 := h2 []
   rw [bts_len] at h1
   have hi' : i < a.length := by omega
   rw [h, dotB]
   have c' : decide ((q : Int) < 0) = false := by simp
   have e1 : ((i : Int) + 1) = ((i + 1 : Nat) : Int) := by omega
   rw [c', cond_false, grd_i, grd_pos (by omega), idx_nat, List.getElem?_eq_getElem hi', bnd1_mk, grd_i, grd_pos (by omega), grd_i, e1]
   have e2 : bts (r.extract ((q : Int) + ((1 : Nat) : Int)).toNat (r.size : Int).toNat) = (bts r).drop (q + 1) := by
    rw [bts_extract]
    have e3 : ((q : Int) + ((1 : Nat) : Int)).toNat = q + 1 := by omega
    rw [e3, List.take_of_length_le (by rw [List.length_drop, bts_len]; omega)]
   rw [h2, List.length_cons] at hs
   rw [genSplit_l2_eq p0 j n hj k (i + 1) fl _ _ (by omega) (by omega) (by omega) (by simp [ha]) (by simp [ha']) (by rw [e2]; omega) (by rw [ByteArray.size_extract]; omega), e2, h2]
   congr 1
   rw [Int.toNat_natCast, List.take_add_one, List.take_set_of_le (Nat.le_refl i), List.getElem?_set_self hi', extract_mkB]
   have e4 : ((q : Int) + 0).toNat - ((0 : Nat) : Int).toNat = q := by omega
   rw [e4]
   simp
theorem strings_Count_dot {s : ByteArray} : strings_Count s ⟨#[46]⟩ = some ((Lib.countByte (bts s) 46 : Nat) : Int) := by
 unfold strings_Count
 have c1 : decide (((⟨#[46]⟩ : ByteArray).size : Int) = 0) = false := by rw [dotB]; decide
 have c2 : decide (((⟨#[46]⟩ : ByteArray).size : Int) = 1) = true := by rw [dotB]; decide
 have h46 : (46 : Int).toNat.toUInt8 = 46 := by decide
 rw [c1, cond_false, c2, cond_true, dot_sidx, bnd1_mk, h46]
 rfl
theorem i_Labels_eq {s : ByteArray} (hs : s.size ≤ 1048576) : i_Labels s = some (labels s) := by
 unfold i_Labels
 by_cases hne : s = ⟨#[]⟩
 ·subst hne
  have e : bts (⟨#[]⟩ : ByteArray) = [] := rfl
  simp [labels, e]
 ·have e : bts s ≠ [] := fun h => hne ((bts_nil_iff s).2 h)
  have hne' : ¬ ((⟨#[46]⟩ : ByteArray) = ⟨#[]⟩) := by decide
  have hc := count_segs (bts s) []
  have hl := segs_len (bts s) []
  rw [bts_len] at hl
  have e0 := strings_Count_dot (s := s)
  have hjj : (if (s.size : Int) + 1 < ((Lib.countByte (bts s) 46 : Nat) : Int) + 1 then (s.size : Int) + 1 else ((Lib.countByte (bts s) 46 : Nat) : Int) + 1) = ((Lib.countByte (bts s) 46 : Nat) : Int) + 1 := by rw [if_neg (by omega)]
  have hloop := genSplit_l2_eq s (((Lib.countByte (bts s) 46 : Nat) : Int) + 1) (Lib.countByte (bts s) 46) (by rw [hjj]; omega) (Lib.countByte (bts s) 46) 0 fuel0 s (List.replicate (((Lib.countByte (bts s) 46 : Nat) : Int) + 1).toNat ⟨#[]⟩) (by omega) (by omega) (by unfold fuel0; omega) (by simp) (by simp; omega) (by omega) hs
  have g0 : decide ((-1 : Int) = 0) = false := by decide
  have g1 : decide ((⟨#[46]⟩ : ByteArray) = ⟨#[]⟩) = false := decide_eq_false hne'
  have g2 : decide ((-1 : Int) < 0) = true := by decide
  rw [decide_eq_false hne, cond_false, strings_Split, strings_genSplit, g0, g1, g2, cond_false, cond_false, cond_true, e0, bnd1_mk, grd_i, strings_genSplit_j0, hjj, grd_i, grd_pos (by omega), grd_i]
  rw [Int.natCast_zero] at hloop
  rw [hloop, bnd1_mk, bnd1_mk]
  unfold labels
  rw [if_neg e, List.take_zero, List.nil_append]
theorem slices_IndexFunc_Record_l0_eq {g : Rec → Option Bool} {p : Rec → Bool} : ∀ (l : List Rec) (i : Nat), (∀ r, r ∈ l → g r = some (p r)) → ∃ v, slices_IndexFunc_Record_l0 g l i = some v ∧ decide (0 ≤ v) = l.any p
 | [], i, _ => ⟨-1, rfl, rfl⟩
 | r :: l, i, h => by
  rw [slices_IndexFunc_Record_l0, h r (.head _), bnd1_mk]
  cases c : p r with
  | true => exact ⟨i, rfl, by simp [c]⟩
  | false =>
   obtain ⟨v, h1, h2⟩ := slices_IndexFunc_Record_l0_eq l (i + 1) fun q hq => h q (.tail _ hq)
   exact ⟨v, h1, by simp [c, h2]⟩
theorem slices_ContainsFunc_Record_eq {g : Rec → Option Bool} {p : Rec → Bool} {l : List Rec} (h : ∀ r, r ∈ l → g r = some (p r)) : slices_ContainsFunc_Record l g = some (l.any p) := by
 obtain ⟨v, h1, h2⟩ := slices_IndexFunc_Record_l0_eq l 0 h
 unfold slices_ContainsFunc_Record slices_IndexFunc_Record
 rw [h1, bnd1_mk, h2]
theorem set_app {α : Type} (pre t : List α) (x y : α) : (pre ++ x :: t).set pre.length y = pre ++ y :: t := by simp
theorem get_app {α : Type} (pre t : List α) (x : α) : (pre ++ x :: t)[pre.length]? = some x := by simp
theorem rec_ext {a b : Rec} : (decide (a.name = b.name) && (decide (a.ty = b.ty) && (decide (a.ttl = b.ttl) && (decide (a.n = b.n) && (decide (a.host = b.host) && (decide (a.text = b.text) && true)))))) = decide (a = b) := by
 cases a; cases b
 simp [Bool.and_assoc]
theorem segs_mem : ∀ (l cur x : List UInt8), x ∈ segs cur l → x.length ≤ cur.length + l.length
 | [], cur, x, h => by
  unfold segs at h
  rw [List.mem_singleton] at h
  subst h; simp
 | b :: l, cur, x, h => by
  unfold segs at h
  split at h
  ·rcases List.mem_cons.1 h with h | h
   ·subst h; simp
   ·have := segs_mem l [] x h
    simp at this ⊢; omega
  ·have := segs_mem l (cur ++ [b]) x h
   simp at this ⊢; omega
theorem labels_mem {s x : ByteArray} (h : x ∈ labels s) : x.size ≤ s.size := by
 unfold labels at h
 split at h
 ·cases h
 ·obtain ⟨y, hy, e⟩ := List.mem_map.1 h
  have h1 := segs_mem _ _ _ hy
  subst e
  rw [← bts_len, bts_mkB, ← bts_len s]
  simpa using h1
def chP (n : Int) : Bool := (decide (97 ≤ n) && decide (n ≤ 122)) || ((decide (48 ≤ n) && decide (n ≤ 57)) || (decide (n = 45) || decide (n = 95)))
def labelP (s : ByteArray) : Bool := ((bts s).all fun b => chP b.toNat) && (decide (1 ≤ (s.size : Int)) && decide ((s.size : Int) ≤ 12))
theorem s_l1In_eq {a b c : Int} : s_l1In a b c = some (decide (b ≤ a) && decide (a ≤ c)) := by
 unfold s_l1In; cases decide (b ≤ a) <;> rfl
theorem s_l2Byte_eq {b : UInt8} : s_l2Byte (b.toNat : Int) = some (chP b.toNat) := by
 have h := b.toNat_lt
 unfold s_l2Byte chP
 rw [wrap_id (by omega), s_l1In_eq, bnd1_mk, s_l1In_eq, bnd1_mk]
 cases decide (97 ≤ (b.toNat : Int)) && decide ((b.toNat : Int) ≤ 122) <;> cases decide (48 ≤ (b.toNat : Int)) && decide ((b.toNat : Int) ≤ 57) <;> cases decide ((b.toNat : Int) = 45) <;> rfl
theorem drop_all {s : ByteArray} {i : Nat} {b : UInt8} {p : UInt8 → Bool} (h : (bts s)[i]? = some b) : ((bts s).drop i).all p = (p b && ((bts s).drop (i + 1)).all p) := by
 obtain ⟨h1, h2⟩ := List.getElem?_eq_some_iff.1 h
 rw [List.drop_eq_getElem_cons h1, List.all_cons, h2]
theorem bts_get {s : ByteArray} {i : Nat} (h : i < s.size) : ∃ b, (bts s)[i]? = some b := ⟨(bts s)[i]'h, List.getElem?_eq_getElem h⟩
theorem s_LabelOk_l1_eq {s : ByteArray} (hs : s.size ≤ 1048576) : ∀ (k i fl : Nat), s.size - i = k → i ≤ s.size → k < fl → s_LabelOk_l1 s fl (i : Int) = some (((bts s).drop i).all (fun b => chP b.toNat) && (decide (1 ≤ (s.size : Int)) && decide ((s.size : Int) ≤ 12)))
 | 0, i, fl, hk, hi, hf => by
  obtain ⟨fl, rfl⟩ : ∃ q, fl = q + 1 := ⟨fl - 1, by omega⟩
  have c : ¬ ((i : Int) < (s.size : Int)) := by omega
  have e : (bts s).drop i = [] := List.drop_eq_nil_of_le (by rw [bts_len]; omega)
  rw [s_LabelOk_l1, decide_eq_false c, cond_false, e]
  unfold s_LabelOk_j0
  rw [s_l1In_eq]; rfl
 | k + 1, i, fl, hk, hi, hf => by
  obtain ⟨fl, rfl⟩ : ∃ q, fl = q + 1 := ⟨fl - 1, by omega⟩
  have c : (i : Int) < (s.size : Int) := by omega
  obtain ⟨b, hb⟩ := bts_get (s := s) (i := i) (by omega)
  have h := s_LabelOk_l1_eq hs k (i + 1) fl (by omega) (by omega) (by omega)
  rw [s_LabelOk_l1, decide_eq_true c, cond_true, sidx_nat hb, bnd1_mk, s_l2Byte_eq, bnd1_mk, grd_i]
  have e : ((i : Int) + 1) = ((i + 1 : Nat) : Int) := by omega
  rw [e, h, drop_all hb]
  cases chP b.toNat <;> rfl
theorem fuel_lt {k : Nat} (h : k ≤ 1048576) : k < fuel0 := by unfold fuel0; omega
theorem s_LabelOk_eq {s : ByteArray} (hs : s.size ≤ 1048576) : s_LabelOk s = some (labelP s) := by
 have h := s_LabelOk_l1_eq hs s.size 0 fuel0 (by omega) (by omega) (fuel_lt hs)
 unfold s_LabelOk
 exact h
theorem i_LabelOk_l1_eq {s : ByteArray} (hs : s.size ≤ 1048576) : ∀ (k i fl : Nat), s.size - i = k → i ≤ s.size → k < fl → i_LabelOk_l1 s fl (i : Int) = some (((bts s).drop i).all (fun b => chP b.toNat) && (decide (1 ≤ (s.size : Int)) && decide ((s.size : Int) ≤ 12)))
 | 0, i, fl, hk, hi, hf => by
  obtain ⟨fl, rfl⟩ : ∃ q, fl = q + 1 := ⟨fl - 1, by omega⟩
  have c : ¬ ((i : Int) < (s.size : Int)) := by omega
  have e : (bts s).drop i = [] := List.drop_eq_nil_of_le (by rw [bts_len]; omega)
  rw [i_LabelOk_l1, decide_eq_false c, cond_false, e]
  unfold i_LabelOk_j0
  cases decide (1 ≤ (s.size : Int)) <;> rfl
 | k + 1, i, fl, hk, hi, hf => by
  obtain ⟨fl, rfl⟩ : ∃ q, fl = q + 1 := ⟨fl - 1, by omega⟩
  have c : (i : Int) < (s.size : Int) := by omega
  obtain ⟨b, hb⟩ := bts_get (s := s) (i := i) (by omega)
  have h := i_LabelOk_l1_eq hs k (i + 1) fl (by omega) (by omega) (by omega)
  rw [i_LabelOk_l1, decide_eq_true c, cond_true, sidx_nat hb, bnd1_mk]
  have e : ((i : Int) + 1) = ((i + 1 : Nat) : Int) := by omega
  have hj : ∀ y : Bool, i_LabelOk_j2 (i : Int) (i_LabelOk_l1 s fl) y = some (!y && (((bts s).drop (i + 1)).all (fun b => chP b.toNat) && (decide (1 ≤ (s.size : Int)) && decide ((s.size : Int) ≤ 12)))) := by
   intro y
   unfold i_LabelOk_j2
   rw [grd_i, e, h]
   cases y <;> rfl
  simp only [hj]
  rw [drop_all hb]
  have hc : chP b.toNat = !(((decide ((b.toNat : Int) < 97)) || decide (122 < (b.toNat : Int))) && ((decide ((b.toNat : Int) < 48) || decide (57 < (b.toNat : Int))) && ((!decide ((b.toNat : Int) = 45)) && !decide ((b.toNat : Int) = 95)))) := by
   have e1 : decide (97 ≤ (b.toNat : Int)) = !decide ((b.toNat : Int) < 97) := by by_cases c : (b.toNat : Int) < 97 <;> simp [c] <;> omega
   have e2 : decide ((b.toNat : Int) ≤ 122) = !decide (122 < (b.toNat : Int)) := by by_cases c : 122 < (b.toNat : Int) <;> simp [c] <;> omega
   have e3 : decide (48 ≤ (b.toNat : Int)) = !decide ((b.toNat : Int) < 48) := by by_cases c : (b.toNat : Int) < 48 <;> simp [c] <;> omega
   have e4 : decide ((b.toNat : Int) ≤ 57) = !decide (57 < (b.toNat : Int)) := by by_cases c : 57 < (b.toNat : Int) <;> simp [c] <;> omega
   unfold chP
   rw [e1, e2, e3, e4]
   cases decide ((b.toNat : Int) < 97) <;> cases decide (122 < (b.toNat : Int)) <;> cases decide ((b.toNat : Int) < 48) <;> cases decide (57 < (b.toNat : Int)) <;> cases decide ((b.toNat : Int) = 45) <;> cases decide ((b.toNat : Int) = 95) <;> rfl
  rw [hc]
  rw [Bool.and_assoc]
  generalize (((bts s).drop (i + 1)).all (fun b => chP b.toNat) && (decide (1 ≤ (s.size : Int)) && decide ((s.size : Int) ≤ 12))) = R
  cases decide ((b.toNat : Int) < 97) <;> cases decide (122 < (b.toNat : Int)) <;> cases decide ((b.toNat : Int) < 48) <;> cases decide (57 < (b.toNat : Int)) <;> cases decide ((b.toNat : Int) = 45) <;> cases decide ((b.toNat : Int) = 95) <;> rfl
theorem i_LabelOk_eq {s : ByteArray} (hs : s.size ≤ 1048576) : i_LabelOk s = some (labelP s) := by
 have h := i_LabelOk_l1_eq hs s.size 0 fuel0 (by omega) (by omega) (fuel_lt hs)
 unfold i_LabelOk
 exact h
def nameP (s : ByteArray) : Bool := (labels s).all labelP && (decide ((s.size : Int) ≤ 50) && decide (((labels s).length : Int) ≤ 6))
theorem s_NameOk_l1_eq {s : ByteArray} : ∀ (l : List ByteArray) (i : Nat), (∀ x, x ∈ l → x.size ≤ 1048576) → s_NameOk_l1 s (labels s) l i = some (l.all labelP && (decide ((s.size : Int) ≤ 50) && decide (((labels s).length : Int) ≤ 6)))
 | [], i, _ => by
  rw [s_NameOk_l1]; unfold s_NameOk_j0
  cases decide ((s.size : Int) ≤ 50) <;> rfl
 | x :: l, i, h => by
  rw [s_NameOk_l1, s_LabelOk_eq (h x (.head _)), bnd1_mk, s_NameOk_l1_eq l (i + 1) fun y hy => h y (.tail _ hy), List.all_cons]
  cases labelP x <;> rfl
theorem s_NameOk_eq {s : ByteArray} (hs : s.size ≤ 1048576) : s_NameOk s = some (nameP s) := by
 unfold s_NameOk
 rw [s_Labels_eq hs, bnd1_mk, s_NameOk_l1_eq _ _ fun x hx => Nat.le_trans (labels_mem hx) hs]; rfl
theorem slices_IndexFunc_string_l0_eq {g : ByteArray → Option Bool} {p : ByteArray → Bool} : ∀ (l : List ByteArray) (i : Nat), (∀ r, r ∈ l → g r = some (p r)) → ∃ v, slices_IndexFunc_string_l0 g l i = some v ∧ decide (0 ≤ v) = l.any p
 | [], i, _ => ⟨-1, rfl, rfl⟩
 | r :: l, i, h => by
  rw [slices_IndexFunc_string_l0, h r (.head _), bnd1_mk]
  cases c : p r with
  | true => exact ⟨i, rfl, by simp [c]⟩
  | false =>
   obtain ⟨v, h1, h2⟩ := slices_IndexFunc_string_l0_eq l (i + 1) fun q hq => h q (.tail _ hq)
   exact ⟨v, h1, by simp [c, h2]⟩
theorem slices_ContainsFunc_string_eq {g : ByteArray → Option Bool} {p : ByteArray → Bool} {l : List ByteArray} (h : ∀ r, r ∈ l → g r = some (p r)) : slices_ContainsFunc_string l g = some (l.any p) := by
 obtain ⟨v, h1, h2⟩ := slices_IndexFunc_string_l0_eq l 0 h
 unfold slices_ContainsFunc_string slices_IndexFunc_string
 rw [h1, bnd1_mk, h2]
theorem any_not_all {α : Type} (p : α → Bool) : ∀ l : List α, (!l.any fun x => !p x) = l.all p
 | [] => rfl
 | x :: l => by rw [List.any_cons, List.all_cons, ← any_not_all p l]; cases p x <;> simp
theorem i_NameOk_eq {s : ByteArray} (hs : s.size ≤ 1048576) : i_NameOk s = some (nameP s) := by
 unfold i_NameOk nameP
 rw [i_Labels_eq hs, bnd1_mk, slices_ContainsFunc_string_eq (p := fun x => !labelP x) fun r hr => by unfold i_NameOk_1; rw [i_LabelOk_eq (Nat.le_trans (labels_mem hr) hs)]; rfl, bnd1_mk, any_not_all]
 cases decide ((s.size : Int) ≤ 50) <;> cases decide (((labels s).length : Int) ≤ 6) <;> cases (labels s).all labelP <;> rfl
def typeP (k : Int) : Bool := decide (k = 1) || (decide (k = 2) || (decide (k = 5) || (decide (k = 6) || decide (k = 16))))
theorem s_TypeOk_eq {k : Int} : s_TypeOk k = some (typeP k) := by
 unfold s_TypeOk typeP
 cases decide (k = 1) <;> cases decide (k = 2) <;> cases decide (k = 5) <;> cases decide (k = 6) <;> rfl
theorem i_TypeOk_eq {k : Int} : i_TypeOk k = some (typeP k) := by
 have e : ∀ a : ByteArray, bnd1 (some a) (fun x1 => some (!decide (x1 = (⟨#[]⟩ : ByteArray)))) = some (!decide (a = (⟨#[]⟩ : ByteArray))) := fun _ => rfl
 unfold i_TypeOk i_TypeText typeP
 cases decide (k = 1) <;> cases decide (k = 2) <;> cases decide (k = 5) <;> cases decide (k = 6) <;> cases decide (k = 16) <;> rfl
def questP (q : Quest) : Bool := nameP q.name && typeP q.ty
theorem s_QuestOk_eq {q : Quest} (h : q.sm) : s_QuestOk q = some (questP q) := by
 unfold s_QuestOk questP
 rw [s_NameOk_eq h, bnd1_mk, s_TypeOk_eq]
 cases nameP q.name <;> rfl
theorem i_QuestOk_eq {q : Quest} (h : q.sm) : i_QuestOk q = some (questP q) := by
 unfold i_QuestOk questP
 rw [i_NameOk_eq h, bnd1_mk, i_TypeOk_eq]
 cases nameP q.name <;> rfl
theorem textTail {s : ByteArray} {i : Nat} (h : ¬ ((i : Int) < (s.size : Int))) : (bts s).drop i = [] := List.drop_eq_nil_of_le (by rw [bts_len]; omega)
def txP (n : Int) : Bool := decide (33 ≤ n) && decide (n ≤ 126)
def textP (s : ByteArray) : Bool := ((bts s).all fun b => txP b.toNat) && decide ((s.size : Int) ≤ 12)
theorem s_l5Text_l1_eq {s : ByteArray} (hs : s.size ≤ 1048576) : ∀ (k i fl : Nat), s.size - i = k → i ≤ s.size → k < fl → s_l5Text_l1 s fl (i : Int) = some (((bts s).drop i).all (fun b => txP b.toNat) && decide ((s.size : Int) ≤ 12))
 | 0, i, fl, hk, hi, hf => by
  obtain ⟨fl, rfl⟩ : ∃ q, fl = q + 1 := ⟨fl - 1, by omega⟩
  have c : ¬ ((i : Int) < (s.size : Int)) := by omega
  rw [s_l5Text_l1, decide_eq_false c, cond_false, textTail c]
  rfl
 | k + 1, i, fl, hk, hi, hf => by
  obtain ⟨fl, rfl⟩ : ∃ q, fl = q + 1 := ⟨fl - 1, by omega⟩
  have c : (i : Int) < (s.size : Int) := by omega
  obtain ⟨b, hb⟩ := bts_get (s := s) (i := i) (by omega)
  have hl := b.toNat_lt
  have h := s_l5Text_l1_eq hs k (i + 1) fl (by omega) (by omega) (by omega)
  have e : ((i : Int) + 1) = ((i + 1 : Nat) : Int) := by omega
  rw [s_l5Text_l1, decide_eq_true c, cond_true, sidx_nat hb, bnd1_mk, wrap_id (by omega), s_l1In_eq, bnd1_mk, grd_i, e, h, drop_all hb, Bool.and_assoc]
  unfold txP
  cases decide (33 ≤ (b.toNat : Int)) && decide ((b.toNat : Int) ≤ 126) <;> rfl
theorem s_l5Text_eq {s : ByteArray} (hs : s.size ≤ 1048576) : s_l5Text s = some (textP s) := by
 have h := s_l5Text_l1_eq hs s.size 0 fuel0 (by omega) (by omega) (fuel_lt hs)
 unfold s_l5Text
 exact h
theorem i_isText_l1_eq {s : ByteArray} (hs : s.size ≤ 1048576) : ∀ (k i fl : Nat), s.size - i = k → i ≤ s.size → k < fl → i_isText_l1 s fl (i : Int) = some (((bts s).drop i).all (fun b => txP b.toNat) && decide ((s.size : Int) ≤ 12))
 | 0, i, fl, hk, hi, hf => by
  obtain ⟨fl, rfl⟩ : ∃ q, fl = q + 1 := ⟨fl - 1, by omega⟩
  have c : ¬ ((i : Int) < (s.size : Int)) := by omega
  rw [i_isText_l1, decide_eq_false c, cond_false, textTail c]
  rfl
 | k + 1, i, fl, hk, hi, hf => by
  obtain ⟨fl, rfl⟩ : ∃ q, fl = q + 1 := ⟨fl - 1, by omega⟩
  have c : (i : Int) < (s.size : Int) := by omega
  obtain ⟨b, hb⟩ := bts_get (s := s) (i := i) (by omega)
  have h := i_isText_l1_eq hs k (i + 1) fl (by omega) (by omega) (by omega)
  have e : ((i : Int) + 1) = ((i + 1 : Nat) : Int) := by omega
  have hj : ∀ y : Bool, i_isText_j2 (i : Int) (i_isText_l1 s fl) y = some (!y && (((bts s).drop (i + 1)).all (fun b => txP b.toNat) && decide ((s.size : Int) ≤ 12))) := by
   intro y
   unfold i_isText_j2
   rw [grd_i, e, h]
   cases y <;> rfl
  rw [i_isText_l1, decide_eq_true c, cond_true, sidx_nat hb, bnd1_mk, bnd1_mk, hj, hj, drop_all hb, Bool.and_assoc]
  have e1 : decide (33 ≤ (b.toNat : Int)) = !decide ((b.toNat : Int) < 33) := by by_cases c : (b.toNat : Int) < 33 <;> simp [c] <;> omega
  have e2 : decide ((b.toNat : Int) ≤ 126) = !decide (126 < (b.toNat : Int)) := by by_cases c : 126 < (b.toNat : Int) <;> simp [c] <;> omega
  unfold txP
  rw [e1, e2]
  generalize (((bts s).drop (i + 1)).all (fun b => decide (33 ≤ (b.toNat : Int)) && decide ((b.toNat : Int) ≤ 126)) && decide ((s.size : Int) ≤ 12)) = R
  cases decide ((b.toNat : Int) < 33) <;> cases decide (126 < (b.toNat : Int)) <;> rfl
theorem i_isText_eq {s : ByteArray} (hs : s.size ≤ 1048576) : i_isText s = some (textP s) := by
 have h := i_isText_l1_eq hs s.size 0 fuel0 (by omega) (by omega) (fuel_lt hs)
 unfold i_isText
 exact h
def inP (a b c : Int) : Bool := decide (b ≤ a) && decide (a ≤ c)
theorem i_isTtl_eq {a : Int} : i_isTtl a = some (inP a 0 100000) := by
 unfold i_isTtl inP; cases decide (0 ≤ a) <;> rfl
theorem i_isFour_eq {a : Int} : i_isFour a = some (inP a 0 2147483647) := by
 unfold i_isFour inP; cases decide (0 ≤ a) <;> rfl
def nilP (s : ByteArray) : Bool := decide (s = (⟨#[]⟩ : ByteArray))
def recP (r : Rec) : Bool :=
 nameP r.name && (inP r.ttl 0 100000 && (bif decide (r.ty = 1) then inP r.n 0 2147483647 && (nilP r.host && nilP r.text) else (bif decide (r.ty = 2) || decide (r.ty = 5) then decide (r.n = 0) && (nameP r.host && nilP r.text)
  else (bif decide (r.ty = 6) then inP r.n 0 100000 && (nameP r.host && nilP r.text) else decide (r.ty = 16) && (decide (r.n = 0) && (nilP r.host && textP r.text))))))
theorem s_RecordOk_eq {r : Rec} (h : r.sm) : s_RecordOk r = some (recP r) := by
 obtain ⟨h1, h2, h3⟩ := h
 unfold s_RecordOk s_RecordOk_j0 s_RecordOk_j1 recP nilP
 rw [s_NameOk_eq h1, bnd1_mk, s_l1In_eq, bnd1_mk, s_l1In_eq, bnd1_mk, s_l1In_eq, bnd1_mk, s_NameOk_eq h2, bnd1_mk, s_l5Text_eq h3, bnd1_mk]
 unfold inP
 generalize (decide (0 ≤ r.ttl) && decide (r.ttl ≤ 100000)) = a
 generalize (decide (0 ≤ r.n) && decide (r.n ≤ 2147483647)) = b
 generalize (decide (0 ≤ r.n) && decide (r.n ≤ 100000)) = d
 cases nameP r.name <;> cases a <;> cases decide (r.ty = 1) <;> cases decide (r.ty = 2) <;> cases decide (r.ty = 5) <;> cases decide (r.ty = 6) <;> cases decide (r.ty = 16) <;> try rfl
 all_goals (cases b <;> cases d <;> cases decide (r.n = 0) <;> cases nameP r.host <;> cases decide (r.host = (⟨#[]⟩ : ByteArray)) <;> rfl)
theorem i_RecordOk_eq {r : Rec} (h : r.sm) : i_RecordOk r = some (recP r) := by
 obtain ⟨h1, h2, h3⟩ := h
 unfold i_RecordOk i_RecordOk_j0 i_RecordOk_j1 recP nilP
 rw [i_NameOk_eq h1, bnd1_mk, i_isTtl_eq, bnd1_mk, i_isFour_eq, bnd1_mk, i_isTtl_eq, bnd1_mk, i_NameOk_eq h2, bnd1_mk, i_isText_eq h3, bnd1_mk]
 generalize inP r.ttl 0 100000 = a
 generalize inP r.n 0 2147483647 = b
 generalize inP r.n 0 100000 = d
 cases nameP r.name <;> cases a <;> cases decide (r.ty = 1) <;> cases decide (r.ty = 2) <;> cases decide (r.ty = 5) <;> cases decide (r.ty = 6) <;> cases decide (r.ty = 16) <;> try rfl
 all_goals (cases b <;> cases d <;> cases decide (r.n = 0) <;> cases nameP r.host <;> cases decide (r.host = (⟨#[]⟩ : ByteArray)) <;> rfl)
def listP (k : Int) (l : List Rec) : Bool := l.all recP && decide ((l.length : Int) ≤ k)
theorem s_l7List_l1_eq {w : List Rec} : ∀ (l : List Rec) (i : Nat), (∀ r, r ∈ l → r.sm) → s_l7List_l1 w l i = some (l.all recP && decide ((w.length : Int) ≤ 8))
 | [], i, _ => rfl
 | r :: l, i, h => by
  rw [s_l7List_l1, s_RecordOk_eq (h r (.head _)), bnd1_mk, s_l7List_l1_eq l (i + 1) fun q hq => h q (.tail _ hq), List.all_cons]
  cases recP r <;> rfl
theorem s_l7List_eq {l : List Rec} (h : smL l) : s_l7List l = some (listP 8 l) := s_l7List_l1_eq l 0 h.2
theorem i_allOk_eq {l : List Rec} {k : Int} (h : smL l) : i_allOk l k = some (listP k l) := by
 unfold i_allOk listP
 rw [slices_ContainsFunc_Record_eq (p := fun r => !recP r) fun r hr => by unfold i_allOk_1; rw [i_RecordOk_eq (h.2 r hr)]; rfl, bnd1_mk, any_not_all]
 cases decide ((l.length : Int) ≤ k) <;> cases l.all recP <;> rfl
def Cur.inv (c : Cur) : Prop := 0 ≤ c.i ∧ c.b.length ≤ 1048576
theorem iand_255 (x : Int) : 0 ≤ iand .i64 x 255 ∧ iand .i64 x 255 ≤ 255 := by
 unfold iand
 have h : (BitVec.ofInt (IntKind.i64).bits x &&& BitVec.ofInt (IntKind.i64).bits 255).toNat ≤ 255 := by
  rw [BitVec.toNat_and]; exact Nat.le_trans Nat.and_le_right (by decide)
 generalize (BitVec.ofInt (IntKind.i64).bits x &&& BitVec.ofInt (IntKind.i64).bits 255).toNat = n at h
 rw [wrap_id (by omega)]; omega
theorem idx_ok {α : Type} {l : List α} {i : Int} (h0 : 0 ≤ i) (h1 : i < l.length) : ∃ x, idx l i = some x ∧ x ∈ l := by
 have h2 : i.toNat < l.length := by omega
 exact ⟨l[i.toNat], by unfold idx; rw [if_pos h0, List.getElem?_eq_getElem h2], List.getElem_mem h2⟩
theorem s_l1Byte_p {c : Cur} (h : c.inv) : ∃ x d, s_l1Byte c = some (x, d) ∧ d.inv ∧ 0 ≤ x ∧ x ≤ 255 := by
 obtain ⟨h1, h2⟩ := h
 unfold s_l1Byte
 by_cases p : c.i < (c.b.length : Int)
 ·obtain ⟨y, hy, -⟩ := idx_ok h1 p
  rw [decide_eq_true p, cond_true, hy, bnd1_mk]
  exact ⟨_, _, rfl, ⟨by show 0 ≤ IntKind.i64.wrap (c.i + 1); rw [wrap_id (by omega)]; omega, h2⟩, (iand_255 _).1, (iand_255 _).2⟩
 ·rw [decide_eq_false p, cond_false]
  exact ⟨_, _, rfl, ⟨h1, h2⟩, (iand_255 _).1, (iand_255 _).2⟩
theorem s_l1Below_p {c : Cur} {n : Int} (h : c.inv) (h1 : 0 < n) (h2 : n ≤ 256) : ∃ x d, s_l1Below c n = some (x, d) ∧ d.inv ∧ 0 ≤ x ∧ x < n := by
 obtain ⟨x, d, e, hd, hx, hy⟩ := s_l1Byte_p h
 have c1 : ¬ (n ≤ 0) := by omega
 unfold s_l1Below
 rw [decide_eq_false c1, cond_false, decide_eq_true h2, cond_true, e, bnd2_mk, grd_pos (by omega)]
 exact ⟨_, _, rfl, hd, Int.tmod_nonneg n hx, Int.tmod_lt_of_pos x h1⟩
theorem s_l1Once_p {c : Cur} {n : Int} (h : c.inv) (h1 : 0 < n) (h2 : n ≤ 256) : ∃ x d, s_l1Once c n = some (x, d) ∧ d.inv := by
 obtain ⟨x, d, e, hd, -, -⟩ := s_l1Below_p h h1 h2
 unfold s_l1Once
 rw [e, bnd2_mk]
 exact ⟨_, _, rfl, hd⟩
theorem s_l1Str_p {c : Cur} {l : List ByteArray} (h : c.inv) (h1 : 0 < l.length) (h2 : l.length ≤ 256) : ∃ x d, s_l1Str c l = some (x, d) ∧ d.inv ∧ x ∈ l := by
 obtain ⟨x, d, e, hd, hx, hy⟩ := s_l1Below_p (n := (l.length : Int)) h (by omega) (by omega)
 obtain ⟨y, e2, hm⟩ := idx_ok hx hy
 unfold s_l1Str
 rw [e, bnd2_mk, e2, bnd1_mk]
 exact ⟨_, _, rfl, hd, hm⟩
theorem s_l1Int_p {c : Cur} {l : List Int} (h : c.inv) (h1 : 0 < l.length) (h2 : l.length ≤ 256) : ∃ x d, s_l1Int c l = some (x, d) ∧ d.inv ∧ x ∈ l := by
 obtain ⟨x, d, e, hd, hx, hy⟩ := s_l1Below_p (n := (l.length : Int)) h (by omega) (by omega)
 obtain ⟨y, e2, hm⟩ := idx_ok hx hy
 unfold s_l1Int
 rw [e, bnd2_mk, e2, bnd1_mk]
 exact ⟨_, _, rfl, hd, hm⟩
theorem small_of {l : List ByteArray} {x : ByteArray} (h : (l.all fun y => Nat.ble y.size 1048576) = true) (hx : x ∈ l) : x.size ≤ 1048576 := Nat.le_of_ble_eq_true (List.all_eq_true.1 h x hx)
theorem s_l3Name_p {c : Cur} (h : c.inv) : ∃ x d, s_l3Name c = some (x, d) ∧ d.inv ∧ x.size ≤ 1048576 := by
 unfold s_l3Name
 refine (fun {l : List ByteArray} (h1 : 0 < l.length) (h2 : l.length ≤ 256) (h3 : (l.all fun y => Nat.ble y.size 1048576) = true) => ?_ : ∀ {l : List ByteArray}, 0 < l.length → l.length ≤ 256 → (l.all fun y => Nat.ble y.size 1048576) = true → ∃ x d, bnd2 (s_l1Str c l) (fun x1 x2 => some (x1, x2)) = some (x, d) ∧ d.inv ∧ x.size ≤ 1048576) (by decide) (by decide) rfl
 obtain ⟨x, d, e, hd, hm⟩ := s_l1Str_p h h1 h2
 rw [e, bnd2_mk]
 exact ⟨_, _, rfl, hd, small_of h3 hm⟩
theorem s_l5Type_p {c : Cur} (h : c.inv) : ∃ x d, s_l5Type c = some (x, d) ∧ d.inv ∧ x ∈ [1, 1, 1, 2, 2, 5, 6, 16] := by
 obtain ⟨x, d, e, hd, hm⟩ := s_l1Int_p (l := [1, 1, 1, 2, 2, 5, 6, 16]) h (by decide) (by decide)
 unfold s_l5Type
 rw [e, bnd2_mk]
 exact ⟨_, _, rfl, hd, hm⟩
theorem size_nil : (⟨#[]⟩ : ByteArray).size ≤ 1048576 := by decide
theorem s_l5Draw_j0_p {x : ByteArray} {k t : Int} {c : Cur} {b : Bool} (h : c.inv) (hx : x.size ≤ 1048576) : ∃ r d, s_l5Draw_j0 x k t c b = some (r, d) ∧ d.inv ∧ r.sm := by
 unfold s_l5Draw_j0
 obtain ⟨y, d, e, hd, hy⟩ := s_l3Name_p h
 obtain ⟨z, d2, e2, hd2, -⟩ := s_l1Int_p (l := [0, 5, 60]) hd (by decide) (by decide)
 obtain ⟨w, d3, e3, hd3, hw⟩ := s_l1Str_p (l := [(⟨#[]⟩ : ByteArray), (⟨#[104, 105]⟩ : ByteArray), (⟨#[116, 119, 101, 108, 118, 101, 98, 121, 116, 101, 115, 33]⟩ : ByteArray)]) h (by decide) (by decide)
 have hw2 := small_of rfl hw
 cases b with
 | true => rw [cond_true, e, bnd2_mk]; exact ⟨_, _, rfl, hd, hx, hy, size_nil⟩
 | false =>
  rw [cond_false]
  cases decide (k = 6) with
  | true => rw [cond_true, e, bnd2_mk, e2, bnd2_mk]; exact ⟨_, _, rfl, hd2, hx, hy, size_nil⟩
  | false =>
   rw [cond_false]
   cases decide (k = 16) with
   | true => rw [cond_true, e3, bnd2_mk]; exact ⟨_, _, rfl, hd3, hx, size_nil, hw2⟩
   | false => exact ⟨_, _, rfl, h, hx, size_nil, size_nil⟩
theorem s_l5Draw_p {c : Cur} (h : c.inv) : ∃ r d, s_l5Draw c = some (r, d) ∧ d.inv ∧ r.sm := by
 unfold s_l5Draw
 obtain ⟨x, d1, e1, h1, hx⟩ := s_l3Name_p h
 obtain ⟨k, d2, e2, h2, -⟩ := s_l5Type_p h1
 obtain ⟨t, d3, e3, h3, -⟩ := s_l1Int_p (l := [0, 1, 5, 60, 300, 100000]) h2 (by decide) (by decide)
 obtain ⟨n, d4, e4, h4, hn, hn2⟩ := s_l1Below_p (n := 9) h3 (by omega) (by omega)
 rw [e1, bnd2_mk, e2, bnd2_mk, e3, bnd2_mk]
 cases decide (k = 1) with
 | true => rw [cond_true, e4, bnd2_mk, grd_i]; exact ⟨_, _, rfl, h4, hx, size_nil, size_nil⟩
 | false =>
  rw [cond_false]
  cases decide (k = 2) with
  | true => rw [cond_true]; exact s_l5Draw_j0_p h3 hx
  | false => rw [cond_false]; exact s_l5Draw_j0_p h3 hx
theorem s_l1New_l1_p {b : List Int} (hb : b.length ≤ 1048576) : ∀ (k fl i : Nat) (h : Int), b.length - i = k → i ≤ b.length → k < fl → ∃ c, s_l1New_l1 b fl h (i : Int) = some c ∧ c.inv
 | 0, fl, i, h, hk, hi, hf => by
  obtain ⟨fl, rfl⟩ : ∃ q, fl = q + 1 := ⟨fl - 1, by omega⟩
  have c1 : ¬ ((i : Int) < (b.length : Int)) := by omega
  rw [s_l1New_l1, decide_eq_false c1, cond_false]
  exact ⟨_, rfl, Int.le_refl 0, hb⟩
 | k + 1, fl, i, h, hk, hi, hf => by
  obtain ⟨fl, rfl⟩ : ∃ q, fl = q + 1 := ⟨fl - 1, by omega⟩
  have c1 : (i : Int) < (b.length : Int) := by omega
  rw [s_l1New_l1, decide_eq_true c1, cond_true]
  unfold s_l1New_j2
  cases decide ((i : Int) < 4000) with
  | false => exact ⟨_, rfl, Int.le_refl 0, hb⟩
  | true =>
   obtain ⟨x, hx, -⟩ := idx_ok (l := b) (i := (i : Int)) (by omega) c1
   have e : IntKind.i64.wrap ((i : Int) + 1) = ((i + 1 : Nat) : Int) := by rw [wrap_id (by omega)]; omega
   rw [cond_true, hx, bnd1_mk, e]
   exact s_l1New_l1_p hb k fl (i + 1) _ (by omega) (by omega) (by omega)
theorem s_l1New_p {b : List Int} (hb : b.length ≤ 1048576) : ∃ c, s_l1New b = some c ∧ c.inv := s_l1New_l1_p hb b.length fuel0 0 _ (by omega) (by omega) (fuel_lt hb)
def key (r : Rec) : Quest := ⟨r.name, r.ty⟩
theorem w_sameRecs_l0_self : ∀ (t pre : List Rec), w_sameRecs_l0 (pre ++ t) t pre.length = some true
 | [], pre => rfl
 | r :: t, pre => by
  have h := w_sameRecs_l0_self t (pre ++ [r])
  rw [w_sameRecs_l0, idx_nat, get_app, bnd1_mk, rec_ext, decide_eq_true rfl, Bool.not_true, cond_false]
  simpa using h
theorem w_sameRecs_self {l : List Rec} : w_sameRecs l l = some true := by
 unfold w_sameRecs
 rw [decide_eq_true rfl, Bool.not_true, cond_false]
 exact w_sameRecs_l0_self l []
def foldC (x : Int) : Int := if 65 ≤ x ∧ x ≤ 90 then x + 32 else x
theorem wrap8 {x : Int} (h : 0 ≤ x ∧ x < 256) : IntKind.u8.wrap x = x := by
 simp [IntKind.wrap, IntKind.signed, IntKind.bits]; omega
theorem s_Fold_l1_eq : ∀ (t pre : List Int) (fl : Nat), t.length < fl → pre.length + t.length ≤ 1099511627776 → (∀ x, x ∈ t → 0 ≤ x ∧ x < 256) → s_Fold_l1 fl (pre ++ t) (pre.length : Int) = some (strOfNums (pre ++ t.map foldC))
 | [], pre, fl, hf, hl, _ => by
  obtain ⟨fl, rfl⟩ : ∃ q, fl = q + 1 := ⟨fl - 1, by simp at hf; omega⟩
  have c : ¬ ((pre.length : Int) < ((pre ++ ([] : List Int)).length : Int)) := by simp
  rw [s_Fold_l1, decide_eq_false c, cond_false]
  rfl
 | x :: t, pre, fl, hf, hl, hx => by
  simp only [List.length_cons] at hf hl
  obtain ⟨fl, rfl⟩ : ∃ q, fl = q + 1 := ⟨fl - 1, by omega⟩
  have c : (pre.length : Int) < ((pre ++ x :: t).length : Int) := by simp; omega
  have hb := hx x (.head _)
  have h := s_Fold_l1_eq t (pre ++ [foldC x]) fl (by omega) (by simp; omega) (fun y hy => hx y (.tail _ hy))
  have e : (pre.length : Int) + 1 = ((pre ++ [foldC x]).length : Int) := by simp
  rw [s_Fold_l1, decide_eq_true c, cond_true, idx_nat, get_app, bnd1_mk, wrap_id (by omega), s_l1In_eq, bnd1_mk, grd_i, grd_i, e, Int.toNat_natCast, set_app]
  simp only [List.append_assoc, List.singleton_append] at h
  rw [List.map_cons]
  by_cases d : 65 ≤ x ∧ x ≤ 90
  ·have f : foldC x = x + 32 := if_pos d
   rw [decide_eq_true d.1, decide_eq_true d.2, Bool.and_self, cond_true, wrap8 (by omega), ← f, h]
  ·have f : foldC x = x := if_neg d
   have d2 : (decide (65 ≤ x) && decide (x ≤ 90)) = false := by
    by_cases d1 : 65 ≤ x
    ·have d3 : ¬ (x ≤ 90) := fun q => d ⟨d1, q⟩
     simp [d3]
    ·simp [d1]
   rw [f] at h
   rw [d2, cond_false, f, h]
theorem i_Fold_l1_eq : ∀ (t pre : List Int), (∀ x, x ∈ t → 0 ≤ x ∧ x < 256) → i_Fold_l1 t (pre ++ t) pre.length = some (strOfNums (pre ++ t.map foldC))
 | [], pre, _ => by rw [i_Fold_l1]; rfl
 | x :: t, pre, hx => by
  have hb := hx x (.head _)
  have h := i_Fold_l1_eq t (pre ++ [foldC x]) (fun y hy => hx y (.tail _ hy))
  simp only [List.append_assoc, List.singleton_append, List.length_append, List.length_singleton] at h
  rw [i_Fold_l1, idx_nat, get_app, bnd1_mk, List.map_cons]
  unfold i_Fold_j2
  rw [Int.toNat_natCast, set_app]
  by_cases d1 : 65 ≤ x
  ·rw [decide_eq_true d1, cond_true]
   by_cases d2 : x ≤ 90
   ·have f : foldC x = x + 32 := if_pos ⟨d1, d2⟩
    have w : IntKind.u8.wrap (IntKind.u8.wrap (x + 97) - 65) = foldC x := by rw [f, wrap8 (x := x + 97) (by omega), wrap8 (by omega)]; omega
    rw [decide_eq_true d2, cond_true, w, h]
   ·have f : foldC x = x := if_neg fun q => d2 q.2
    rw [f] at h
    rw [decide_eq_false d2, cond_false, f, h]
  ·have f : foldC x = x := if_neg fun q => d1 q.1
   rw [f] at h
   rw [decide_eq_false d1, cond_false, cond_false, f, h]
theorem bytesOf_rng {s : ByteArray} {x : Int} (h : x ∈ bytesOf s) : 0 ≤ x ∧ x < 256 := by
 unfold bytesOf at h
 obtain ⟨b, -, e⟩ := List.mem_map.1 h
 have := b.toNat_lt
 omega
def fold (s : ByteArray) : ByteArray := strOfNums ((bytesOf s).map foldC)
theorem s_Fold_eq {s : ByteArray} (h : s.size ≤ 1048576) : s_Fold s = some (fold s) := by
 unfold s_Fold fold
 rw [grd_pos (by omega)]
 have := s_Fold_l1_eq (bytesOf s) [] fuel0 (fuel_lt (by rw [bytesOf_len]; exact h)) (by rw [bytesOf_len]; simp; omega) (fun x hx => bytesOf_rng hx)
 exact this
theorem i_Fold_eq {s : ByteArray} (h : s.size ≤ 1048576) : i_Fold s = some (fold s) := by
 unfold i_Fold fold
 rw [grd_pos (by omega)]
 exact i_Fold_l1_eq (bytesOf s) [] (fun x hx => bytesOf_rng hx)
theorem strOfNums_size (l : List Int) : (strOfNums l).size = l.length := by
 unfold strOfNums
 rw [← bts_len]
 unfold bts
 simp
def getLabel (b : List Int) (i : Int) : ByteArray × Int × Bool :=
 if 0 ≤ i ∧ i < (b.length : Int) then
  (match b[i.toNat]? with
  | none => (⟨#[]⟩, 0, false)
  | some n => if 12 < n ∨ (b.length : Int) - i ≤ n then (⟨#[]⟩, 0, false)
   else (bif labelP (fold (strOfNums ((b.drop (i + 1).toNat).take n.toNat))) then (fold (strOfNums ((b.drop (i + 1).toNat).take n.toNat)), i + 1 + n, true) else (⟨#[]⟩, 0, false)))
 else (⟨#[]⟩, 0, false)
theorem labelP_nil : labelP (fold (strOfNums [])) = false := by decide
theorem s_GetLabel_eq {b : List Int} {i : Int} (hb : ∀ x, x ∈ b → 0 ≤ x ∧ x < 256) (hl : b.length ≤ 1048576) (hi : i64 i) : s_GetLabel b i = some (getLabel b i) := by
 simp only [i64] at hi
 unfold s_GetLabel s_GetLabel_j0 getLabel
 by_cases c1 : i < 0
 ·rw [decide_eq_true c1, cond_true, cond_true, if_neg (by omega)]
 rw [decide_eq_false c1, cond_false]
 by_cases c2 : (b.length : Int) ≤ i
 ·rw [decide_eq_true c2, cond_true, if_neg (by omega)]
 rw [decide_eq_false c2, cond_false, if_pos (by omega)]
 have hlt : i.toNat < b.length := by omega
 have e1 : idx b i = some b[i.toNat] := by unfold idx; rw [if_pos (by omega), List.getElem?_eq_getElem hlt]
 have hx := hb _ (List.getElem_mem hlt)
 rw [e1, bnd1_mk, List.getElem?_eq_getElem hlt]
 generalize b[i.toNat] = n at hx
 unfold s_GetLabel_j1
 rw [wrap_id (by omega), s_l1In_eq, bnd1_mk]
 simp only
 by_cases c3 : 1 ≤ n ∧ n ≤ 12
 ·rw [decide_eq_true c3.1, decide_eq_true c3.2]
  rw [show (!(true && true)) = false from rfl, cond_false, grd_i, grd_i]
  by_cases c4 : (b.length : Int) - i - 1 < n
  ·rw [decide_eq_true c4, cond_true, if_pos (.inr (by omega))]
  ·have e2 : (i + 1 + n).toNat - (i + 1).toNat = n.toNat := by omega
   rw [decide_eq_false c4, cond_false, if_neg (by omega), grd_i, grd_i, grd_i, grd_pos (by omega), e2]
   have hs : (strOfNums ((b.drop (i + 1).toNat).take n.toNat)).size ≤ 1048576 := by rw [strOfNums_size, List.length_take]; omega
   generalize strOfNums ((b.drop (i + 1).toNat).take n.toNat) = s at hs
   have hf : (fold s).size ≤ 1048576 := by unfold fold; rw [strOfNums_size, List.length_map, bytesOf_len]; exact hs
   rw [s_Fold_eq hs, bnd1_mk, s_LabelOk_eq hf, bnd1_mk]
   cases labelP (fold s)
   ·rfl
   ·rw [Bool.not_true, cond_false, cond_true, grd_i, grd_i]
 ·have d : (decide (1 ≤ n) && decide (n ≤ 12)) = false := by
   by_cases d1 : 1 ≤ n
   ·have d3 : ¬ (n ≤ 12) := fun q => c3 ⟨d1, q⟩
    simp [d3]
   ·simp [d1]
  rw [d, Bool.not_false, cond_true, cond_true]
  by_cases c5 : 12 < n ∨ (b.length : Int) - i ≤ n
  ·rw [if_pos c5]
  ·have n0 : n = 0 := by omega
   subst n0
   rw [if_neg c5]
   have e3 : ((b.drop (i + 1).toNat).take (0 : Int).toNat) = [] := by simp
   rw [e3, labelP_nil, cond_false]
theorem i_GetLabel_eq {b : List Int} {i : Int} (hb : ∀ x, x ∈ b → 0 ≤ x ∧ x < 256) (hl : b.length ≤ 1048576) (hi : i64 i) : i_GetLabel b i = some (getLabel b i) := by
 simp only [i64] at hi
 unfold i_GetLabel getLabel
 by_cases c1 : i < 0
 ·rw [decide_eq_true c1, cond_true, if_neg (by omega)]; rfl
 rw [decide_eq_false c1, cond_false]
 by_cases c2 : (b.length : Int) ≤ i
 ·rw [decide_eq_true c2, cond_true, if_neg (by omega)]; rfl
 rw [decide_eq_false c2, cond_false, if_pos (by omega)]
 have hlt : i.toNat < b.length := by omega
 have e1 : idx b i = some b[i.toNat] := by unfold idx; rw [if_pos (by omega), List.getElem?_eq_getElem hlt]
 have hx := hb _ (List.getElem_mem hlt)
 unfold i_GetLabel_j0
 rw [e1, bnd1_mk, bnd1_mk, List.getElem?_eq_getElem hlt]
 generalize b[i.toNat] = n at hx
 rw [wrap_id (by omega)]
 simp only
 by_cases c3 : 12 < n
 ·rw [decide_eq_true c3, cond_true, cond_true, if_pos (.inl c3)]
 rw [decide_eq_false c3, cond_false, grd_i]
 by_cases c4 : (b.length : Int) - i ≤ n
 ·rw [decide_eq_true c4, cond_true, if_pos (.inr c4)]
 have e2 : (i + 1 + n).toNat - (i + 1).toNat = n.toNat := by omega
 rw [decide_eq_false c4, cond_false, if_neg (by omega), grd_i, grd_i, grd_i, grd_pos (by omega), e2]
 have hs : (strOfNums ((b.drop (i + 1).toNat).take n.toNat)).size ≤ 1048576 := by rw [strOfNums_size, List.length_take]; omega
 generalize strOfNums ((b.drop (i + 1).toNat).take n.toNat) = s at hs
 have hf : (fold s).size ≤ 1048576 := by unfold fold; rw [strOfNums_size, List.length_map, bytesOf_len]; exact hs
 rw [i_Fold_eq hs, bnd1_mk, i_LabelOk_eq hf, bnd1_mk]
 cases labelP (fold s) <;> rfl
theorem s_l7Quest_p {c : Cur} (h : c.inv) : ∃ x d, s_l7Quest c = some (x, d) ∧ d.inv ∧ x.sm := by
 obtain ⟨s, d1, e1, h1, hs⟩ := s_l3Name_p h
 obtain ⟨k, d2, e2, h2, -⟩ := s_l5Type_p h1
 unfold s_l7Quest
 rw [e1, bnd2_mk, e2, bnd2_mk]
 exact ⟨_, _, rfl, h2, hs⟩
theorem w_sameMsg_self {m : MMsg} : w_sameMsg m m = some true := by
 unfold w_sameMsg; simp [w_sameRecs_self]
def z1 (t : Int) (a : Bool) : List Rec := bif a then [Rec.mk (⟨#[99, 111, 109]⟩ : ByteArray) 6 t (IntKind.i64.wrap (Int.tdiv t 2)) (⟨#[]⟩ : ByteArray) (⟨#[]⟩ : ByteArray), Rec.mk (⟨#[99, 111, 109]⟩ : ByteArray) 2 t 0 (⟨#[110, 115, 46, 99, 111, 109]⟩ : ByteArray) (⟨#[]⟩ : ByteArray), Rec.mk (⟨#[110, 115, 46, 99, 111, 109]⟩ : ByteArray) 1 t 2 (⟨#[]⟩ : ByteArray) (⟨#[]⟩ : ByteArray)] ++ [Rec.mk (⟨#[101, 120, 46, 99, 111, 109]⟩ : ByteArray) 2 t 0 (⟨#[110, 115, 46, 101, 120, 46, 99, 111, 109]⟩ : ByteArray) (⟨#[]⟩ : ByteArray), Rec.mk (⟨#[110, 115, 46, 101, 120, 46, 99, 111, 109]⟩ : ByteArray) 1 t 3 (⟨#[]⟩ : ByteArray) (⟨#[]⟩ : ByteArray)]
 else [Rec.mk (⟨#[99, 111, 109]⟩ : ByteArray) 6 t (IntKind.i64.wrap (Int.tdiv t 2)) (⟨#[]⟩ : ByteArray) (⟨#[]⟩ : ByteArray), Rec.mk (⟨#[99, 111, 109]⟩ : ByteArray) 2 t 0 (⟨#[110, 115, 46, 99, 111, 109]⟩ : ByteArray) (⟨#[]⟩ : ByteArray), Rec.mk (⟨#[110, 115, 46, 99, 111, 109]⟩ : ByteArray) 1 t 2 (⟨#[]⟩ : ByteArray) (⟨#[]⟩ : ByteArray)]
def z2 (b : Bool) (l : List Rec) : List Rec := bif b then l ++ [Rec.mk (⟨#[119, 119, 119, 46, 99, 111, 109]⟩ : ByteArray) 5 9 0 (⟨#[97, 46, 111, 114, 103]⟩ : ByteArray) (⟨#[]⟩ : ByteArray)] else l
def z3 (c : Bool) (l : List Rec) : List Rec := bif c then l ++ [Rec.mk (⟨#[116, 46, 99, 111, 109]⟩ : ByteArray) 16 7 0 (⟨#[]⟩ : ByteArray) (⟨#[104, 105]⟩ : ByteArray), Rec.mk (⟨#[98, 46, 97, 46, 99, 111, 109]⟩ : ByteArray) 1 9 8 (⟨#[]⟩ : ByteArray) (⟨#[]⟩ : ByteArray)] else l
theorem int_bnd {α : Type} {c : Cur} {l : List Int} {k : Int → Cur → Option α} {P : α → Prop} (h : c.inv) (h1 : Nat.blt 0 l.length = true) (h2 : Nat.ble l.length 256 = true) (hk : ∀ x d, d.inv → x ∈ l → ∃ r, k x d = some r ∧ P r) : ∃ r, bnd2 (s_l1Int c l) k = some r ∧ P r := by
 obtain ⟨x, d, e, hd, hm⟩ := s_l1Int_p h (by simpa [Nat.blt_eq] using h1) (Nat.le_of_ble_eq_true h2)
 rw [e, bnd2_mk]
 exact hk x d hd hm
theorem below_bnd {α : Type} {c : Cur} {n : Int} {k : Int → Cur → Option α} {P : α → Prop} (h : c.inv) (h1 : 0 < n) (h2 : n ≤ 256) (hk : ∀ x d, d.inv → 0 ≤ x → x < n → ∃ r, k x d = some r ∧ P r) : ∃ r, bnd2 (s_l1Below c n) k = some r ∧ P r := by
 obtain ⟨x, d, e, hd, h3, h4⟩ := s_l1Below_p h h1 h2
 rw [e, bnd2_mk]
 exact hk x d hd h3 h4
theorem once_bnd {α : Type} {c : Cur} {n : Int} {k : Bool → Cur → Option α} {P : α → Prop} (h : c.inv) (h1 : 0 < n) (h2 : n ≤ 256) (hk : ∀ x d, d.inv → ∃ r, k x d = some r ∧ P r) : ∃ r, bnd2 (s_l1Once c n) k = some r ∧ P r := by
 obtain ⟨x, d, e, hd⟩ := s_l1Once_p h h1 h2
 rw [e, bnd2_mk]
 exact hk x d hd
theorem rec_bnd {α : Type} {c : Cur} {k : Rec → Cur → Option α} {P : α → Prop} (h : c.inv) (hk : ∀ x d, d.inv → x.sm → ∃ r, k x d = some r ∧ P r) : ∃ r, bnd2 (s_l5Draw c) k = some r ∧ P r := by
 obtain ⟨x, d, e, hd, hx⟩ := s_l5Draw_p h
 rw [e, bnd2_mk]
 exact hk x d hd hx
theorem bif_p {α : Type} {b : Bool} {x y : Option α} {P : α → Prop} (h1 : b = true → ∃ r, x = some r ∧ P r) (h2 : b = false → ∃ r, y = some r ∧ P r) : ∃ r, (bif b then x else y) = some r ∧ P r := by
 cases b with
 | true => exact h1 rfl
 | false => exact h2 rfl
theorem below_big {α : Type} {c : Cur} {n : Int} {k : Int → Cur → Option α} {P : α → Prop} (h : c.inv) (h1 : 256 < n) (hk : ∀ x d, d.inv → 0 ≤ x → x < n → ∃ r, k x d = some r ∧ P r) : ∃ r, bnd2 (s_l1Below c n) k = some r ∧ P r := by
 obtain ⟨x, d, e, hd, hx, hy⟩ := s_l1Byte_p h
 obtain ⟨x2, d2, e2, hd2, hx2, hy2⟩ := s_l1Byte_p hd
 obtain ⟨x3, d3, e3, hd3, hx3, hy3⟩ := s_l1Byte_p hd2
 unfold s_l1Below
 rw [decide_eq_false (by omega), cond_false, decide_eq_false (by omega), cond_false, e, bnd2_mk, e2, bnd2_mk, e3, bnd2_mk, grd_i, grd_i, grd_i, grd_i, grd_pos (by omega), bnd2_mk]
 exact hk _ _ hd3 (Int.tmod_nonneg n (by omega)) (Int.tmod_lt_of_pos _ (by omega))
def sl (l : List Rec) (n : Nat) : Prop := l.length ≤ n ∧ ∀ r, r ∈ l → r.sm
theorem sl_app {a b : List Rec} {m n : Nat} (h : sl a m) (k : sl b n) : sl (a ++ b) (m + n) := ⟨by have := h.1; have := k.1; simp; omega, fun q hq => by
 rcases List.mem_append.1 hq with hq | hq
 ·exact h.2 q hq
 ·exact k.2 q hq⟩
theorem sl_one {r : Rec} (h : r.sm) : sl [r] 1 := ⟨by simp, fun q hq => by rw [List.mem_singleton] at hq; rw [hq]; exact h⟩
theorem sl_le {a : List Rec} {m n : Nat} (h : sl a m) (hn : m ≤ n) : sl a n := ⟨Nat.le_trans h.1 hn, h.2⟩
theorem sl_g {a b : List Rec} {m n : Nat} (h : sl a m) (k : sl b n) (hn : m + n ≤ 1000) : (a ++ b).length ≤ 1099511627776 := by have := (sl_app h k).1; omega
def MMsg.dm (m : MMsg) (n : Nat) : Prop := m.q.sm ∧ sl m.an n ∧ sl m.au n ∧ sl m.ad n
theorem dm_sm {m : MMsg} {n : Nat} (h : m.dm n) (hn : n ≤ 1000) : m.sm := ⟨h.1, ⟨by have := h.2.1.1; omega, h.2.1.2⟩, ⟨by have := h.2.2.1.1; omega, h.2.2.1.2⟩, ⟨by have := h.2.2.2.1; omega, h.2.2.2.2⟩⟩
theorem s_l5List_l0_p : ∀ (k fl : Nat) (c : Cur) (l : List Rec) (n : Nat), c.inv → k < fl → sl l n → n + k ≤ 1000 → ∃ r, s_l5List_l0 fl c.b c.i c.h l (k : Int) = some r ∧ r.2.inv ∧ sl r.1 (n + k)
 | 0, fl, c, l, n, h, hf, hl, hn => by
  obtain ⟨fl, rfl⟩ : ∃ q, fl = q + 1 := ⟨fl - 1, by omega⟩
  rw [s_l5List_l0]
  exact ⟨_, rfl, h, hl⟩
 | k + 1, fl, c, l, n, h, hf, hl, hn => by
  obtain ⟨fl, rfl⟩ : ∃ q, fl = q + 1 := ⟨fl - 1, by omega⟩
  have e : ((k + 1 : Nat) : Int) - 1 = (k : Int) := by omega
  rw [s_l5List_l0, decide_eq_true (by omega), cond_true, show Cur.mk c.b c.i c.h = c from rfl]
  refine rec_bnd h fun x d hd hx => ?_
  rw [grd_pos (sl_g hl (sl_one hx) (by omega)), grd_i, e]
  have := s_l5List_l0_p k fl d (l ++ [x]) (n + 1) hd (by omega) (sl_app hl (sl_one hx)) (by omega)
  rw [show n + (k + 1) = n + 1 + k by omega]
  exact this
theorem s_l5List_p {c : Cur} {n : Nat} (h : c.inv) (hn : n ≤ 100) : ∃ r, s_l5List c (n : Int) = some r ∧ r.2.inv ∧ sl r.1 n := by
 unfold s_l5List
 rw [grd_i]
 refine below_bnd h (by omega) (by omega) fun x d hd h0 h1 => ?_
 obtain ⟨k, rfl⟩ : ∃ k : Nat, x = (k : Int) := ⟨x.toNat, by omega⟩
 obtain ⟨r, g1, g2, g3⟩ := s_l5List_l0_p k fuel0 d [] 0 hd (fuel_lt (by omega)) ⟨Nat.le_refl _, fun r hr => by cases hr⟩ (by omega)
 exact ⟨r, g1, g2, sl_le g3 (by omega)⟩
theorem list_bnd {α : Type} {c : Cur} {n : Nat} {k : List Rec → Cur → Option α} {P : α → Prop} (h : c.inv) (hn : n ≤ 100) (hk : ∀ x d, d.inv → sl x n → ∃ r, k x d = some r ∧ P r) : ∃ r, bnd2 (s_l5List c (n : Int)) k = some r ∧ P r := by
 obtain ⟨⟨x, d⟩, e, hd, hx⟩ := s_l5List_p h hn
 rw [e, bnd2_mk]
 exact hk x d hd hx
theorem quest_bnd {α : Type} {c : Cur} {k : Quest → Cur → Option α} {P : α → Prop} (h : c.inv) (hk : ∀ x d, d.inv → x.sm → ∃ r, k x d = some r ∧ P r) : ∃ r, bnd2 (s_l7Quest c) k = some r ∧ P r := by
 obtain ⟨x, d, e, hd, hx⟩ := s_l7Quest_p h
 rw [e, bnd2_mk]
 exact hk x d hd hx
theorem s_l7Draw_p {c : Cur} (h : c.inv) : ∃ r, s_l7Draw c = some r ∧ r.2.inv ∧ r.1.dm 3 := by
 unfold s_l7Draw s_AskMsg
 refine below_big h (by omega) fun i d hd _ _ => quest_bnd hd fun q d hd hq => ?_
 rw [bnd1_mk]
 have z0 : sl ([] : List Rec) 3 := ⟨Nat.zero_le _, fun r hr => by cases hr⟩
 refine once_bnd hd (by omega) (by omega) fun o d hd => bif_p (fun _ => ⟨_, rfl, hd, hq, z0, z0, z0⟩) fun _ => ?_
 refine once_bnd hd (by omega) (by omega) fun o1 d hd => once_bnd hd (by omega) (by omega) fun o2 d hd => once_bnd hd (by omega) (by omega) fun o3 d hd => int_bnd hd rfl rfl fun k d hd _ => ?_
 exact list_bnd (n := 3) hd (by omega) fun a d hd ha => list_bnd (n := 2) hd (by omega) fun b d hd hb => list_bnd (n := 2) hd (by omega) fun e d hd he => ⟨_, rfl, hd, hq, ha, sl_le hb (by omega), sl_le he (by omega)⟩
theorem ba_ext {a b : ByteArray} (h : a.data.toList = b.data.toList) : a = b := by
 cases a; cases b; simp only at h; congr 1; exact Array.toList_inj.1 h
theorem ba_app (a b : ByteArray) : (a ++ b).data.toList = a.data.toList ++ b.data.toList := by
 rw [ByteArray.data_append, Array.toList_append]
theorem joinB_list (l : List ByteArray) (s : ByteArray) : (joinB l s).data.toList = Lib.join (l.map fun x => x.data.toList) s.data.toList := by
 unfold joinB; simp
theorem joinB_nil (s : ByteArray) : joinB [] s = ⟨#[]⟩ := ba_ext (by rw [joinB_list]; rfl)
theorem joinB_one (p s : ByteArray) : joinB [p] s = p := ba_ext (by rw [joinB_list]; simp [Lib.join_one])
theorem joinB_snoc {l : List ByteArray} (p s : ByteArray) (h : l ≠ []) : joinB (l ++ [p]) s = (joinB l s ++ s) ++ p := by
 cases l with
 | nil => exact absurd rfl h
 | cons x t =>
  apply ba_ext
  rw [ba_app, ba_app, joinB_list, joinB_list]
  simp only [List.cons_append, List.map_cons, List.map_append, List.map_nil, Lib.join_cons, Lib.joinTail]
  simp [List.append_assoc]
theorem joinB_cons {l : List ByteArray} (p s : ByteArray) (h : l ≠ []) : joinB (p :: l) s = p ++ (s ++ joinB l s) := by
 cases l with
 | nil => exact absurd rfl h
 | cons x t =>
  apply ba_ext
  rw [ba_app, ba_app, joinB_list, joinB_list]
  simp only [List.map_cons, Lib.join_cons, Lib.joinTail]
  simp [List.append_assoc]
theorem join_segs : ∀ (l cur : List UInt8), Lib.join (segs cur l) [46] = cur ++ l
 | [], cur => by rw [segs, Lib.join_one, List.append_nil]
 | b :: l, cur => by
  rw [segs]
  split
  ·rename_i h
   have h1 := join_segs l []
   have h2 := segs_pos [] l
   subst h
   cases hs : segs [] l with
   | nil => rw [hs] at h2; simp at h2
   | cons x t =>
    rw [hs, Lib.join_cons] at h1
    rw [Lib.join_cons, Lib.joinTail, List.map_cons, List.flatten_cons]
    have : Lib.joinTail [46] t = (t.map ([46] ++ ·)).flatten := rfl
    rw [← this, List.append_assoc, h1]; rfl
  ·rw [join_segs l]; simp
theorem joinB_labels {s : ByteArray} (h : s ≠ ⟨#[]⟩) : joinB (labels s) ⟨#[46]⟩ = s := by
 have hn : bts s ≠ [] := fun e => h ((bts_nil_iff s).2 e)
 apply ba_ext
 rw [joinB_list]
 unfold labels
 rw [if_neg hn, List.map_map]
 have : (fun x : ByteArray => x.data.toList) ∘ mkB = id := by funext l; rfl
 rw [this, List.map_id]
 exact join_segs (bts s) []
theorem ishr_nat {a : Int} {k : Nat} (h : 0 ≤ a) (hk : k ≤ 64) : ishr .i64 a k = a / (2 ^ k : Int) := by
 unfold ishr
 rw [show min k (IntKind.i64).bits = k from Nat.min_eq_left hk, Int.fdiv_eq_ediv_of_nonneg _ (Int.pow_nonneg (by decide))]
theorem ofInt_nat (a : Nat) : BitVec.ofInt 64 (a : Int) = BitVec.ofNat 64 a := BitVec.ofInt_natCast 64 a
theorem iand_255n {a : Int} (h0 : 0 ≤ a) (h1 : a < 9223372036854775808) : iand .i64 a 255 = a % 256 := by
 obtain ⟨n, rfl⟩ : ∃ n : Nat, a = (n : Int) := ⟨a.toNat, by omega⟩
 unfold iand
 have e : (BitVec.ofInt (IntKind.i64).bits (n : Int) &&& BitVec.ofInt (IntKind.i64).bits 255).toNat = n % 256 := by
  show (BitVec.ofInt 64 (n : Int) &&& BitVec.ofInt 64 ((255 : Nat) : Int)).toNat = n % 256
  rw [ofInt_nat, ofInt_nat, BitVec.toNat_and, BitVec.toNat_ofNat, BitVec.toNat_ofNat, Nat.mod_eq_of_lt (a := n) (by omega), show 255 % 2 ^ 64 = 2 ^ 8 - 1 from by decide, Nat.and_two_pow_sub_one_eq_mod]
 rw [e, wrap_id (by omega)]
 omega
theorem ior_add {a b : Int} (k : Nat) (hk : k ≤ 40) (ha : 0 ≤ a) (ha2 : a < 4294967296) (hb : 0 ≤ b) (hb2 : b < 2 ^ k) (hd : a % 2 ^ k = 0) : ior .i64 a b = a + b := by
 obtain ⟨m, rfl⟩ : ∃ n : Nat, a = (n : Int) := ⟨a.toNat, by omega⟩
 obtain ⟨n, rfl⟩ : ∃ n : Nat, b = (n : Int) := ⟨b.toNat, by omega⟩
 have hm : m < 2 ^ 64 := by omega
 have hn1 : n < 2 ^ k := by exact_mod_cast hb2
 have hn : n < 2 ^ 64 := Nat.lt_of_lt_of_le hn1 (Nat.pow_le_pow_right (by decide) (by omega))
 have hn2 : n < 2 ^ 40 := Nat.lt_of_lt_of_le hn1 (Nat.pow_le_pow_right (by decide) hk)
 have hd' : m % 2 ^ k = 0 := by exact_mod_cast hd
 have hmk : m = (m / 2 ^ k) <<< k := by
  rw [Nat.shiftLeft_eq]
  have := Nat.div_add_mod m (2 ^ k)
  rw [hd', Nat.add_zero, Nat.mul_comm] at this
  exact this.symm
 unfold ior
 have e : (BitVec.ofInt (IntKind.i64).bits (m : Int) ||| BitVec.ofInt (IntKind.i64).bits (n : Int)).toNat = m + n := by
  show (BitVec.ofInt 64 (m : Int) ||| BitVec.ofInt 64 (n : Int)).toNat = m + n
  rw [ofInt_nat, ofInt_nat, BitVec.toNat_or, BitVec.toNat_ofNat, BitVec.toNat_ofNat, Nat.mod_eq_of_lt hm, Nat.mod_eq_of_lt hn]
  have h2 := Nat.shiftLeft_add_eq_or_of_lt hn1 (m / 2 ^ k)
  rw [← hmk] at h2
  exact h2.symm
 rw [e, wrap_id (by omega)]
 omega
def walkF (b : List Int) : Nat → Int → ByteArray → Int → Int → Int → ByteArray × Int × Int × Int
 | 0, _, _, _, _, _ => (⟨#[]⟩, 0, 0, 0)
 | f + 1, at', s, nx, bg, j =>
  if at' < 0 ∨ (b.length : Int) ≤ at' then (⟨#[]⟩, 0, 1, j) else
  if b.getD at'.toNat 0 = 0 then (s, if nx < 0 then at' + 1 else nx, 0, j) else
  if 192 ≤ b.getD at'.toNat 0 then
   (if (b.length : Int) ≤ at' + 1 then (⟨#[]⟩, 0, 1, j) else
    if bg ≤ 256 * (b.getD at'.toNat 0 - 192) + b.getD (at' + 1).toNat 0 then (⟨#[]⟩, 0, 3, j) else
    walkF b f (256 * (b.getD at'.toNat 0 - 192) + b.getD (at' + 1).toNat 0) s (if nx < 0 then at' + 2 else nx) (256 * (b.getD at'.toNat 0 - 192) + b.getD (at' + 1).toNat 0) (j + 1)) else
  if 12 < b.getD at'.toNat 0 then (⟨#[]⟩, 0, 2, j) else
  if (b.length : Int) - at' ≤ b.getD at'.toNat 0 then (⟨#[]⟩, 0, 1, j) else
  if (getLabel b at').2.2 = false then (⟨#[]⟩, 0, 2, j) else
  if nameP (if s = ⟨#[]⟩ then (getLabel b at').1 else (s ++ ⟨#[46]⟩) ++ (getLabel b at').1) then walkF b f (getLabel b at').2.1 (if s = ⟨#[]⟩ then (getLabel b at').1 else (s ++ ⟨#[46]⟩) ++ (getLabel b at').1) nx bg j else (⟨#[]⟩, 0, 4, j)
theorem idx_gd {b : List Int} {i : Int} (h0 : 0 ≤ i) (h1 : i < (b.length : Int)) : idx b i = some (b.getD i.toNat 0) := by
 unfold idx
 rw [if_pos h0, List.getD_eq_getElem?_getD, List.getElem?_eq_getElem (by omega)]; rfl
theorem getD_rng {b : List Int} (hb : ∀ x, x ∈ b → 0 ≤ x ∧ x < 256) (n : Nat) : 0 ≤ b.getD n 0 ∧ b.getD n 0 < 256 := by
 rw [List.getD_eq_getElem?_getD]
 cases h : b[n]? with
 | none => simp
 | some x => exact hb x (List.mem_of_getElem? h)
theorem getLabel_ok {b : List Int} {i : Int} (hb : ∀ x, x ∈ b → 0 ≤ x ∧ x < 256) (h : (getLabel b i).2.2 = true) : labelP (getLabel b i).1 = true ∧ (getLabel b i).2.1 = i + 1 + b.getD i.toNat 0 ∧ 0 ≤ i ∧ i + 1 + b.getD i.toNat 0 ≤ (b.length : Int) := by
 unfold getLabel at h ⊢
 by_cases c : 0 ≤ i ∧ i < (b.length : Int)
 ·rw [if_pos c] at h ⊢
  have e : b[i.toNat]? = some (b.getD i.toNat 0) := by
   rw [List.getD_eq_getElem?_getD, List.getElem?_eq_getElem (by omega)]; rfl
  have hr := getD_rng hb i.toNat
  rw [e] at h ⊢
  generalize b.getD i.toNat 0 = n at h hr
  simp only at h ⊢
  by_cases c2 : 12 < n ∨ (b.length : Int) - i ≤ n
  ·rw [if_pos c2] at h; cases h
  ·rw [if_neg c2] at h ⊢
   cases hl : labelP (fold (strOfNums ((b.drop (i + 1).toNat).take n.toNat))) with
   | true => rw [cond_true]; exact ⟨hl, rfl, c.1, by omega⟩
   | false => rw [hl, cond_false] at h; cases h
 ·rw [if_neg c] at h; cases h
theorem labelP_size {s : ByteArray} (h : labelP s = true) : 1 ≤ s.size ∧ s.size ≤ 12 := by
 unfold labelP at h
 simp only [Bool.and_eq_true, decide_eq_true_eq] at h
 omega
theorem nameP_size {s : ByteArray} (h : nameP s = true) : s.size ≤ 50 := by
 unfold nameP at h
 simp only [Bool.and_eq_true, decide_eq_true_eq] at h
 omega
theorem size_app (a b : ByteArray) : (a ++ b).size = a.size + b.size := ByteArray.size_append
theorem putS_size {s p : ByteArray} : (if s = ⟨#[]⟩ then p else (s ++ ⟨#[46]⟩) ++ p).size ≥ s.size + p.size := by
 by_cases c : s = ⟨#[]⟩
 ·rw [if_pos c, c]; show p.size ≥ 0 + p.size; omega
 ·rw [if_neg c, size_app, size_app]; omega
theorem putS_le {s p : ByteArray} : (if s = ⟨#[]⟩ then p else (s ++ ⟨#[46]⟩) ++ p).size ≤ s.size + p.size + 1 := by
 by_cases c : s = ⟨#[]⟩
 ·rw [if_pos c]; omega
 ·rw [if_neg c, size_app, size_app]; show s.size + 1 + p.size ≤ _; omega
theorem s_walk_eq {b : List Int} (hb : ∀ x, x ∈ b → 0 ≤ x ∧ x < 256) (hl : b.length ≤ 1048576) : ∀ (fl m : Nat) (at' : Int) (s : ByteArray) (nx bg j : Int), m < fl → (at' < 0 ∨ (b.length : Int) ≤ at' ∨ bg.toNat + (60 - s.size) ≤ m) → s.size ≤ 50 → i64 at' → 0 ≤ j → j + m ≤ 100000000 →
  s_l4Walk_l0 b fl at' s nx bg j = some (walkF b fl at' s nx bg j)
 | 0, m, at', s, nx, bg, j, hm, _, _, _, _, _ => by omega
 | fl + 1, m, at', s, nx, bg, j, hm, hbg, hs, hi, hj, hjm => by
  rw [s_l4Walk_l0, walkF]
  simp only [i64] at hi
  by_cases c1 : at' < 0
  ·rw [decide_eq_true c1, cond_true]
   unfold s_l4Walk_j1
   rw [cond_true, if_pos (.inl c1)]
  rw [decide_eq_false c1, cond_false]
  unfold s_l4Walk_j1
  by_cases c2 : (b.length : Int) ≤ at'
  ·rw [decide_eq_true c2, cond_true, if_pos (.inr c2)]
  have hn := getD_rng hb at'.toNat
  have hy := getD_rng hb (at' + 1).toNat
  have hmm : bg.toNat + (60 - s.size) ≤ m := by omega
  rw [decide_eq_false c2, cond_false, if_neg (by omega), idx_gd (by omega) (by omega), bnd1_mk]
  have hg := @getLabel_ok b at' hb
  have hge := s_GetLabel_eq hb hl (i := at') (by simp only [i64]; omega)
  generalize hnn : b.getD at'.toNat 0 = n at hn hg ⊢
  rw [wrap_id (by omega)]
  by_cases c3 : n = 0
  ·rw [decide_eq_true c3, cond_true, if_pos c3]
   by_cases c4 : nx < 0
   ·rw [decide_eq_true c4, cond_true, grd_i, if_pos c4]; rfl
   ·rw [decide_eq_false c4, cond_false, if_neg c4]; rfl
  rw [decide_eq_false c3, cond_false, if_neg c3]
  by_cases c5 : 192 ≤ n
  ·rw [decide_eq_true c5, cond_true, if_pos c5, grd_i]
   by_cases c6 : (b.length : Int) ≤ at' + 1
   ·rw [decide_eq_true c6, cond_true, if_pos c6]
   rw [decide_eq_false c6, cond_false, if_neg c6, grd_i, grd_i, grd_i, idx_gd (by omega) (by omega), bnd1_mk]
   generalize b.getD (at' + 1).toNat 0 = y at hy ⊢
   rw [wrap_id (by omega), grd_i]
   by_cases c7 : bg ≤ 256 * (n - 192) + y
   ·rw [decide_eq_true c7, cond_true, if_pos c7]
   rw [decide_eq_false c7, cond_false, if_neg c7]
   have ih : ∀ nx', s_l4Walk_l0 b fl (256 * (n - 192) + y) s nx' (256 * (n - 192) + y) (j + 1) = some (walkF b fl (256 * (n - 192) + y) s nx' (256 * (n - 192) + y) (j + 1)) := fun nx' =>
    s_walk_eq hb hl fl (m - 1) _ _ _ _ _ (by omega) (.inr (.inr (by omega))) hs (by simp only [i64]; omega) (by omega) (by omega)
   unfold s_l4Walk_j3
   rw [wrap_id (by omega), wrap_id (by omega)]
   by_cases c8 : nx < 0
   ·rw [decide_eq_true c8, cond_true, if_pos c8, grd_i, grd_i]; exact ih _
   ·rw [decide_eq_false c8, cond_false, if_neg c8, grd_i]; exact ih _
  rw [decide_eq_false c5, cond_false, if_neg c5]
  have hkey : s_l4Walk_j4 b at' s nx bg j (s_l4Walk_l0 b fl) false = some (if (getLabel b at').2.2 = false then (⟨#[]⟩, 0, 2, j) else
    if nameP (if s = ⟨#[]⟩ then (getLabel b at').1 else (s ++ ⟨#[46]⟩) ++ (getLabel b at').1) then walkF b fl (getLabel b at').2.1 (if s = ⟨#[]⟩ then (getLabel b at').1 else (s ++ ⟨#[46]⟩) ++ (getLabel b at').1) nx bg j else (⟨#[]⟩, 0, 4, j)) := by
   unfold s_l4Walk_j4
   rw [cond_false, hge]
   generalize getLabel b at' = g at hg
   obtain ⟨p, to, ok⟩ := g
   rw [bnd3_mk]
   cases ok with
   | false => rfl
   | true =>
    obtain ⟨g1, g2, g3, g4⟩ := hg rfl
    have gs := labelP_size g1
    simp only at g1 g2 gs ⊢
    have h1 := @putS_size s p
    have h2 := @putS_le s p
    rw [Bool.not_true, cond_false, if_neg (by simp)]
    have e : ∀ t : ByteArray, t = (if s = ⟨#[]⟩ then p else (s ++ ⟨#[46]⟩) ++ p) → bnd1 (s_NameOk t) (fun x26 => bif !x26 then (some ((⟨#[]⟩ : ByteArray), 0, 4, j)) else (s_l4Walk_l0 b fl to t nx bg j)) = some (if nameP t = true then walkF b fl to t nx bg j else (⟨#[]⟩, 0, 4, j)) := fun t ht => by
     rw [← ht] at h1 h2
     rw [s_NameOk_eq (by omega), bnd1_mk]
     cases hn : nameP t with
     | false => rfl
     | true =>
      have h3 := nameP_size hn
      rw [Bool.not_true, cond_false, if_pos rfl]
      exact s_walk_eq hb hl fl (m - 1) _ _ _ _ _ (by omega) (.inr (.inr (by omega))) (by omega) (by simp only [i64]; omega) (by omega) (by omega)
    by_cases c9 : s = ⟨#[]⟩
    ·rw [decide_eq_true c9, Bool.not_true, cond_false]
     unfold s_l4Walk_j5
     have e9 : s ++ p = p := by rw [c9]; apply ba_ext; rw [ba_app]; rfl
     rw [grd_pos (by omega), e9, if_pos c9]
     exact e p (by rw [if_pos c9])
    ·rw [decide_eq_false c9, Bool.not_false, cond_true]
     unfold s_l4Walk_j5
     rw [grd_pos (by show s.size + 1 ≤ _; omega), grd_pos (by rw [size_app]; show s.size + 1 + p.size ≤ _; omega), if_neg c9]
     exact e _ (by rw [if_neg c9])
  by_cases c10 : n ≤ 12
  ·rw [decide_eq_true c10, cond_true, if_neg (by omega), grd_i, grd_i]
   by_cases c11 : (b.length : Int) - at' ≤ n
   ·rw [decide_eq_true (show (b.length : Int) - at' - 1 < n by omega), if_pos c11]; unfold s_l4Walk_j4; rfl
   ·rw [decide_eq_false (show ¬ (b.length : Int) - at' - 1 < n by omega), if_neg c11]; exact hkey
  ·rw [decide_eq_false c10, cond_false, if_pos (by omega), hkey]
   have : (getLabel b at').2.2 = false := by
    unfold getLabel
    rw [if_pos (by omega)]
    have e : b[at'.toNat]? = some n := by
     rw [← hnn, List.getD_eq_getElem?_getD, List.getElem?_eq_getElem (by omega)]; rfl
    rw [e]
    simp only
    rw [if_pos (.inl (by omega))]
   rw [if_pos this]
theorem joinB_pos {l : List ByteArray} (h : ∀ x, x ∈ l → 1 ≤ x.size) : l.length ≤ (joinB l ⟨#[46]⟩).size := by
 induction l with
 | nil => exact Nat.zero_le _
 | cons x t ih =>
  have hx := h x (.head _)
  have ih := ih fun y hy => h y (.tail _ hy)
  cases t with
  | nil => rw [joinB_one]; simpa using hx
  | cons y u =>
   rw [joinB_cons x _ (by simp), size_app, size_app]
   simp only [List.length_cons] at ih ⊢
   omega
theorem joinB_empty {l : List ByteArray} (h : ∀ x, x ∈ l → 1 ≤ x.size) : joinB l ⟨#[46]⟩ = ⟨#[]⟩ ↔ l = [] := by
 constructor
 ·intro e
  have := joinB_pos h
  rw [e] at this
  have h0 : (⟨#[]⟩ : ByteArray).size = 0 := rfl
  exact List.length_eq_zero_iff.1 (by omega)
 ·intro e; rw [e, joinB_nil]
theorem joinB_put {l : List ByteArray} {p : ByteArray} (h : ∀ x, x ∈ l → 1 ≤ x.size) : joinB (l ++ [p]) ⟨#[46]⟩ = (if joinB l ⟨#[46]⟩ = ⟨#[]⟩ then p else (joinB l ⟨#[46]⟩ ++ ⟨#[46]⟩) ++ p) := by
 by_cases c : l = []
 ·rw [if_pos ((joinB_empty h).2 c), c, List.nil_append, joinB_one]
 ·rw [if_neg fun e => c ((joinB_empty h).1 e), joinB_snoc _ _ c]
theorem i_JoinLabels_eq {l : List ByteArray} (h : l.length ≤ 10000000) (h2 : (joinB l ⟨#[46]⟩).size ≤ 10000000) : i_JoinLabels l = some (joinB l ⟨#[46]⟩) := by
 unfold i_JoinLabels strings_Join
 have h3 : (Lib.join (l.map fun x => x.data.toList) (⟨#[46]⟩ : ByteArray).data.toList).length = (joinB l ⟨#[46]⟩).size := by rw [← joinB_list]; rfl
 rw [grd_pos ⟨by omega, by rw [h3]; omega⟩, bnd1_mk]
theorem i_walk_eq {b : List Int} (hb : ∀ x, x ∈ b → 0 ≤ x ∧ x < 256) (hl : b.length ≤ 1048576) : ∀ (fl m : Nat) (ls : List ByteArray) (nx bg j at' : Int), m < fl → (at' < 0 ∨ (b.length : Int) ≤ at' ∨ bg.toNat + (60 - (joinB ls ⟨#[46]⟩).size) ≤ m) → (∀ x, x ∈ ls → 1 ≤ x.size) → (joinB ls ⟨#[46]⟩).size ≤ 50 → i64 at' → 0 ≤ j → j + m ≤ 100000000 →
  i_read_l0 b fl ls nx bg j at' = some (walkF b fl at' (joinB ls ⟨#[46]⟩) nx bg j)
 | 0, m, ls, nx, bg, j, at', hm, _, _, _, _, _, _ => by omega
 | fl + 1, m, ls, nx, bg, j, at', hm, hbg, hls, hs, hi, hj, hjm => by
  have hlen := joinB_pos hls
  have hput := fun p => @joinB_put ls p hls
  have hjoin := @i_JoinLabels_eq ls (by omega) (by omega)
  rw [i_read_l0, walkF]
  generalize hsn : joinB ls ⟨#[46]⟩ = s at hs hbg hlen hput hjoin ⊢
  simp only [i64] at hi
  by_cases c1 : at' < 0
  ·rw [decide_eq_true c1, cond_true]
   unfold i_read_j1
   rw [cond_true, if_pos (.inl c1)]
  rw [decide_eq_false c1, cond_false]
  unfold i_read_j1
  by_cases c2 : (b.length : Int) ≤ at'
  ·rw [decide_eq_true c2, cond_true, if_pos (.inr c2)]
  have hn := getD_rng hb at'.toNat
  have hy := getD_rng hb (at' + 1).toNat
  have hmm : bg.toNat + (60 - s.size) ≤ m := by omega
  rw [decide_eq_false c2, cond_false, if_neg (by omega), idx_gd (by omega) (by omega), bnd1_mk]
  have hg := @getLabel_ok b at' hb
  have hge := i_GetLabel_eq hb hl (i := at') (by simp only [i64]; omega)
  generalize hnn : b.getD at'.toNat 0 = n at hn hg ⊢
  rw [wrap_id (by omega)]
  by_cases c3 : n = 0
  ·rw [decide_eq_true c3, cond_true, if_pos c3]
   unfold i_read_j2
   rw [hjoin, bnd1_mk, bnd1_mk]
   by_cases c4 : nx < 0
   ·rw [decide_eq_true c4, cond_true, grd_i, if_pos c4]
   ·rw [decide_eq_false c4, cond_false, if_neg c4]
  rw [decide_eq_false c3, cond_false, if_neg c3]
  by_cases c5 : 192 ≤ n
  ·rw [decide_eq_true c5, cond_true, if_pos c5, grd_i]
   by_cases c6 : (b.length : Int) ≤ at' + 1
   ·rw [decide_eq_true c6, cond_true, if_pos c6]
   rw [decide_eq_false c6, cond_false, if_neg c6, grd_i, grd_i, grd_i, idx_gd (by omega) (by omega), bnd1_mk]
   generalize b.getD (at' + 1).toNat 0 = y at hy ⊢
   rw [wrap_id (by omega), grd_i]
   by_cases c7 : bg ≤ 256 * (n - 192) + y
   ·rw [decide_eq_true c7, cond_true, if_pos c7]
   rw [decide_eq_false c7, cond_false, if_neg c7]
   have ih : ∀ nx', i_read_l0 b fl ls nx' (256 * (n - 192) + y) (j + 1) (256 * (n - 192) + y) = some (walkF b fl (256 * (n - 192) + y) s nx' (256 * (n - 192) + y) (j + 1)) := fun nx' => by
    have := i_walk_eq hb hl fl (m - 1) ls nx' (256 * (n - 192) + y) (j + 1) (256 * (n - 192) + y) (by omega) (.inr (.inr (by rw [hsn]; omega))) hls (by rw [hsn]; omega) (by simp only [i64]; omega) (by omega) (by omega)
    rw [hsn] at this
    exact this
   unfold i_read_j3
   rw [wrap_id (by omega), wrap_id (by omega)]
   by_cases c8 : nx < 0
   ·rw [decide_eq_true c8, cond_true, if_pos c8, grd_i, grd_i]; exact ih _
   ·rw [decide_eq_false c8, cond_false, if_neg c8, grd_i]; exact ih _
  rw [decide_eq_false c5, cond_false, if_neg c5]
  by_cases c10 : 12 < n
  ·rw [decide_eq_true c10, cond_true, if_pos c10]
  rw [decide_eq_false c10, cond_false, if_neg c10, grd_i]
  by_cases c11 : (b.length : Int) - at' ≤ n
  ·rw [decide_eq_true c11, cond_true, if_pos c11]
  rw [decide_eq_false c11, cond_false, if_neg c11, hge]
  generalize getLabel b at' = g at hg
  obtain ⟨p, to, ok⟩ := g
  rw [bnd3_mk]
  cases ok with
  | false => rfl
  | true =>
   obtain ⟨g1, g2, g3, g4⟩ := hg rfl
   have gs := labelP_size g1
   have h1 := @putS_size s p
   have h2 := @putS_le s p
   simp only at g1 g2 gs ⊢
   have hp := hput p
   have hls' : ∀ x, x ∈ ls ++ [p] → 1 ≤ x.size := fun x hx => by
    rcases List.mem_append.1 hx with hx | hx
    ·exact hls x hx
    ·rw [List.mem_singleton] at hx; rw [hx]; exact gs.1
   rw [Bool.not_true, cond_false, if_neg (by simp), ← hp, grd_pos (by simp; omega), i_JoinLabels_eq (by simp; omega) (by rw [hp]; omega), bnd1_mk]
   rw [← hp] at h1 h2
   rw [i_NameOk_eq (by omega), bnd1_mk]
   cases hn : nameP (joinB (ls ++ [p]) ⟨#[46]⟩) with
   | false => rfl
   | true =>
    have h3 := nameP_size hn
    rw [Bool.not_true, cond_false, if_pos rfl]
    exact i_walk_eq hb hl fl (m - 1) _ _ _ _ _ (by omega) (.inr (.inr (by omega))) hls' (by omega) (by simp only [i64]; omega) (by omega) (by omega)
def readF (b : List Int) (i : Int) : ByteArray × Int × Int × Int := walkF b fuel0 i ⟨#[]⟩ (-1) i 0
theorem s_l4Walk_eq {b : List Int} {i : Int} (hb : ∀ x, x ∈ b → 0 ≤ x ∧ x < 256) (hl : b.length ≤ 1048576) (hi : i64 i) : s_l4Walk b i = some (readF b i) := by
 unfold s_l4Walk readF
 have h0 : (⟨#[]⟩ : ByteArray).size = 0 := rfl
 exact s_walk_eq hb hl fuel0 1048700 i _ _ _ _ (by unfold fuel0; omega) (by omega) (by omega) hi (by omega) (by omega)
theorem i_read_eq {b : List Int} {i : Int} (hb : ∀ x, x ∈ b → 0 ≤ x ∧ x < 256) (hl : b.length ≤ 1048576) (hi : i64 i) : i_read b i = some (readF b i) := by
 unfold i_read readF
 have h0 : (joinB [] ⟨#[46]⟩).size = 0 := by rw [joinB_nil]; rfl
 have := i_walk_eq hb hl fuel0 1048700 [] (-1) i 0 i (by unfold fuel0; omega) (by omega) (fun x hx => by cases hx) (by omega) hi (by omega) (by omega)
 rw [joinB_nil] at this
 exact this
def nameAt (b : List Int) (i : Int) : ByteArray × Int × Int := ((readF b i).1, (readF b i).2.1, (readF b i).2.2.1)
theorem s_GetName_eq {b : List Int} {i : Int} (hb : ∀ x, x ∈ b → 0 ≤ x ∧ x < 256) (hl : b.length ≤ 1048576) (hi : i64 i) : s_GetName b i = some (nameAt b i) := by
 unfold s_GetName nameAt
 rw [s_l4Walk_eq hb hl hi]; rfl
theorem i_GetName_eq {b : List Int} {i : Int} (hb : ∀ x, x ∈ b → 0 ≤ x ∧ x < 256) (hl : b.length ≤ 1048576) (hi : i64 i) : i_GetName b i = some (nameAt b i) := by
 unfold i_GetName nameAt
 rw [i_read_eq hb hl hi]; rfl
theorem walkF_p {b : List Int} (hb : ∀ x, x ∈ b → 0 ≤ x ∧ x < 256) (hl : b.length ≤ 1048576) : ∀ (fl : Nat) (at' : Int) (s : ByteArray) (nx bg j : Int), s.size ≤ 50 → (-1 ≤ nx ∧ nx ≤ (b.length : Int)) → (walkF b fl at' s nx bg j).1.size ≤ 50 ∧ 0 ≤ (walkF b fl at' s nx bg j).2.1 ∧ (walkF b fl at' s nx bg j).2.1 ≤ (b.length : Int)
 | 0, at', s, nx, bg, j, hs, hn => ⟨by show (0 : Nat) ≤ 50; omega, by show (0 : Int) ≤ 0; omega, by show (0 : Int) ≤ _; omega⟩
 | fl + 1, at', s, nx, bg, j, hs, hn => by
  have z : ∀ k : Int, ((⟨#[]⟩ : ByteArray), (0 : Int), k, j).1.size ≤ 50 ∧ 0 ≤ ((⟨#[]⟩ : ByteArray), (0 : Int), k, j).2.1 ∧ ((⟨#[]⟩ : ByteArray), (0 : Int), k, j).2.1 ≤ (b.length : Int) := fun k => ⟨by show (0 : Nat) ≤ 50; omega, by show (0 : Int) ≤ 0; omega, by show (0 : Int) ≤ _; omega⟩
  rw [walkF]
  by_cases c1 : at' < 0 ∨ (b.length : Int) ≤ at'
  ·rw [if_pos c1]; exact z 1
  rw [if_neg c1]
  have hg := @getLabel_ok b at' hb
  by_cases c3 : b.getD at'.toNat 0 = 0
  ·rw [if_pos c3]
   refine ⟨hs, ?_, ?_⟩ <;> (show _ ≤ _; simp only; split <;> omega)
  rw [if_neg c3]
  by_cases c5 : 192 ≤ b.getD at'.toNat 0
  ·rw [if_pos c5]
   by_cases c6 : (b.length : Int) ≤ at' + 1
   ·rw [if_pos c6]; exact z 1
   rw [if_neg c6]
   by_cases c7 : bg ≤ 256 * (b.getD at'.toNat 0 - 192) + b.getD (at' + 1).toNat 0
   ·rw [if_pos c7]; exact z 3
   rw [if_neg c7]
   exact walkF_p hb hl fl _ _ _ _ _ hs (by split <;> omega)
  rw [if_neg c5]
  by_cases c10 : 12 < b.getD at'.toNat 0
  ·rw [if_pos c10]; exact z 2
  rw [if_neg c10]
  by_cases c11 : (b.length : Int) - at' ≤ b.getD at'.toNat 0
  ·rw [if_pos c11]; exact z 1
  rw [if_neg c11]
  by_cases c12 : (getLabel b at').2.2 = false
  ·rw [if_pos c12]; exact z 2
  rw [if_neg c12]
  by_cases c13 : nameP (if s = ⟨#[]⟩ then (getLabel b at').1 else (s ++ ⟨#[46]⟩) ++ (getLabel b at').1) = true
  ·rw [if_pos c13]
   exact walkF_p hb hl fl _ _ _ _ _ (nameP_size c13) hn
  ·rw [if_neg c13]; exact z 4
theorem nameAt_p {b : List Int} {i : Int} (hb : ∀ x, x ∈ b → 0 ≤ x ∧ x < 256) (hl : b.length ≤ 1048576) : (nameAt b i).1.size ≤ 50 ∧ 0 ≤ (nameAt b i).2.1 ∧ (nameAt b i).2.1 ≤ (b.length : Int) := walkF_p hb hl fuel0 i ⟨#[]⟩ (-1) i 0 (by show (0 : Nat) ≤ 50; omega) (by omega)
def two (b : List Int) (i : Int) : Int × Bool := if i < 0 ∨ (b.length : Int) - 2 < i then (0, false) else (256 * b.getD i.toNat 0 + b.getD (i + 1).toNat 0, true)
theorem s_Get2_eq {b : List Int} {i : Int} (hb : ∀ x, x ∈ b → 0 ≤ x ∧ x < 256) (hl : b.length ≤ 1048576) : s_Get2 b i = some (two b i) := by
 unfold s_Get2 s_Get2_j0 two
 by_cases c1 : i < 0
 ·rw [decide_eq_true c1, if_pos (.inl c1)]; rfl
 rw [decide_eq_false c1, cond_false, grd_i]
 by_cases c2 : (b.length : Int) - 2 < i
 ·rw [decide_eq_true c2, if_pos (.inr c2)]; rfl
 have h1 := getD_rng hb i.toNat
 have h2 := getD_rng hb (i + 1).toNat
 rw [decide_eq_false c2, cond_false, if_neg (by omega), idx_gd (by omega) (by omega), bnd1_mk, grd_i, idx_gd (by omega) (by omega), bnd1_mk]
 generalize b.getD i.toNat 0 = x at h1 ⊢
 generalize b.getD (i + 1).toNat 0 = y at h2 ⊢
 have e : ishl .i64 x 8 = 256 * x := by
  unfold ishl
  rw [show min 8 (IntKind.i64).bits = 8 from rfl, wrap_id (by omega)]; omega
 rw [wrap_id (by omega), wrap_id (by omega), e, ior_add 8 (by omega) (by omega) (by omega) (by omega) (by omega) (by omega)]
theorem getD_at {b : List Int} {i : Nat} (h : i < b.length) : b.getD i 0 = b[i] := by
 rw [List.getD_eq_getElem?_getD, List.getElem?_eq_getElem h]; rfl
theorem take2 {b : List Int} {i : Nat} (h : i + 2 ≤ b.length) : (b.drop i).take 2 = [b.getD i 0, b.getD (i + 1) 0] := by
 rw [getD_at (by omega), getD_at (by omega), List.drop_eq_getElem_cons (by omega), List.take_succ_cons, List.drop_eq_getElem_cons (by omega), List.take_succ_cons, List.take_zero]
theorem i_Get2_eq {b : List Int} {i : Int} (hb : ∀ x, x ∈ b → 0 ≤ x ∧ x < 256) (hl : b.length ≤ 1048576) : i_Get2 b i = some (two b i) := by
 unfold i_Get2 i_getBytes i_getBytes_j0 two
 by_cases c1 : i < 0
 ·rw [decide_eq_true c1, if_pos (.inl c1)]; rfl
 rw [decide_eq_false c1, cond_false, grd_i]
 by_cases c2 : (b.length : Int) - 2 < i
 ·rw [decide_eq_true c2, if_pos (.inr c2)]; rfl
 have h1 := getD_rng hb i.toNat
 have h2 := getD_rng hb (i + 1).toNat
 have e1 : (i + 1).toNat = i.toNat + 1 := by omega
 have e2 : (i + 2).toNat - i.toNat = 2 := by omega
 rw [e1] at h2 ⊢
 rw [decide_eq_false c2, cond_false, if_neg (by omega), grd_i, grd_pos (by omega), e2, take2 (by omega)]
 generalize b.getD i.toNat 0 = x at h1 ⊢
 generalize b.getD (i.toNat + 1) 0 = y at h2 ⊢
 rw [i_getBytes_l2, wrap_id (by omega), grd_i, grd_i, i_getBytes_l2, wrap_id (by omega), grd_i, grd_i, i_getBytes_l2]
 unfold i_getBytes_j1
 rw [decide_eq_false (by omega)]
 show some (256 * (256 * 0 + x) + y, true) = _
 rw [show 256 * (256 * 0 + x) + y = 256 * x + y by omega]
theorem getQuest_same {b : List Int} {i : Int} (hb : ∀ x, x ∈ b → 0 ≤ x ∧ x < 256) (hl : b.length ≤ 1048576) (hi : i64 i) : ∃ r, s_GetQuest b i = some r ∧ i_GetQuest b i = some r := by
 unfold s_GetQuest i_GetQuest
 rw [s_GetName_eq hb hl hi, i_GetName_eq hb hl hi]
 obtain ⟨h1, h2, h3⟩ := @nameAt_p b i hb hl
 generalize nameAt b i = x at h1 h2 h3
 obtain ⟨s, p, k⟩ := x
 simp only at h1 h2 h3
 rw [bnd3_mk, bnd3_mk]
 by_cases c : k = 0
 ·rw [decide_eq_true c, Bool.not_true, cond_false, cond_false, grd_i, grd_i]
  by_cases c2 : (b.length : Int) - 4 < p
  ·rw [decide_eq_true c2, decide_eq_true (show (b.length : Int) - p < 4 by omega), cond_true, cond_true]; exact ⟨_, rfl, rfl⟩
  ·rw [decide_eq_false c2, decide_eq_false (show ¬ (b.length : Int) - p < 4 by omega), cond_false, cond_false, s_Get2_eq hb hl, i_Get2_eq hb hl]
   generalize two b p = t
   obtain ⟨t1, t2⟩ := t
   rw [bnd2_mk, bnd2_mk, grd_i, grd_i, s_Get2_eq hb hl, i_Get2_eq hb hl]
   generalize two b (p + 2) = u
   obtain ⟨u1, u2⟩ := u
   rw [bnd2_mk, bnd2_mk, s_QuestOk_eq (show Quest.sm ⟨s, t1⟩ from by show s.size ≤ _; omega), i_QuestOk_eq (show Quest.sm ⟨s, t1⟩ from by show s.size ≤ _; omega), bnd1_mk, bnd1_mk]
   unfold s_GetQuest_j0 i_GetQuest_j0
   rw [grd_i]
   cases questP ⟨s, t1⟩ <;> cases decide (u1 = 1) <;> exact ⟨_, rfl, rfl⟩
 ·rw [decide_eq_false c, Bool.not_false, cond_true, cond_true]; exact ⟨_, rfl, rfl⟩
def blk (b : List Int) (n : Nat) : Prop := b.length ≤ n ∧ ∀ x, x ∈ b → 0 ≤ x ∧ x < 256
theorem blk_app {a b : List Int} {m n : Nat} (h : blk a m) (k : blk b n) : blk (a ++ b) (m + n) := ⟨by have := h.1; have := k.1; simp; omega, fun q hq => by
 rcases List.mem_append.1 hq with hq | hq
 ·exact h.2 q hq
 ·exact k.2 q hq⟩
theorem blk_le {a : List Int} {m n : Nat} (h : blk a m) (hn : m ≤ n) : blk a n := ⟨Nat.le_trans h.1 hn, h.2⟩
theorem blk_nil : blk [] 0 := ⟨Nat.le_refl _, fun r hr => by cases hr⟩
theorem blk_cons {x : Int} {b : List Int} {n : Nat} (hx : 0 ≤ x ∧ x < 256) (t : blk b n) : blk (x :: b) (n + 1) := ⟨by have := t.1; simp; omega, fun q hq => by
 rcases List.mem_cons.1 hq with rfl | hq
 ·exact hx
 ·exact t.2 q hq⟩
theorem blk_bytes (s : ByteArray) : blk (bytesOf s) s.size := ⟨by rw [bytesOf_len]; exact Nat.le_refl _, fun x hx => bytesOf_rng hx⟩
theorem wrap8_rng (x : Int) : 0 ≤ IntKind.u8.wrap x ∧ IntKind.u8.wrap x < 256 := by
 simp [IntKind.wrap, IntKind.signed, IntKind.bits]; omega
theorem wrap8m {x : Int} (h : 0 ≤ x) : IntKind.u8.wrap x = x % 256 := by
 simp [IntKind.wrap, IntKind.signed, IntKind.bits]
theorem blk_w (x : Int) : blk [IntKind.u8.wrap x] 1 := blk_cons (wrap8_rng x) blk_nil
theorem slices_Clone_byte_eq {b : List Int} (h : b.length ≤ 1000000) : slices_Clone_byte b = some b := by
 unfold slices_Clone_byte
 rw [List.nil_append, grd_pos (by omega)]
theorem put2_same {b : List Int} {k : Int} {n : Nat} (hb : blk b n) (hn : n ≤ 900000) (hk : k < 9223372036854775808) : ∃ r, s_Put2 b k = some r ∧ i_Put2 b k = some r ∧ blk r (n + 2) := by
 have hl := hb.1
 unfold s_Put2 i_Put2 i_putBytes
 rw [slices_Clone_byte_eq (by omega), bnd1_mk, List.nil_append, grd_pos (by omega), s_l1In_eq, bnd1_mk]
 by_cases c1 : k < 0
 ·rw [decide_eq_false (by omega), Bool.false_and, Bool.not_false, cond_true, decide_eq_true c1, cond_true]
  exact ⟨b, rfl, rfl, blk_le hb (by omega)⟩
 rw [decide_eq_true (by omega), Bool.true_and, decide_eq_false c1, cond_false]
 unfold i_putBytes_j0
 by_cases c2 : 65535 < k
 ·rw [decide_eq_false (by omega), Bool.not_false, cond_true, decide_eq_true c2, cond_true]
  exact ⟨b, rfl, rfl, blk_le hb (by omega)⟩
 rw [decide_eq_true (by omega), Bool.not_true, cond_false, decide_eq_false c2, cond_false, grd_pos (by rw [List.length_append]; simp; omega), grd_i]
 have e1 : IntKind.u8.wrap (ishr .i64 k 0) = IntKind.u8.wrap (iand .i64 k 255) := by
  rw [ishr_nat (by omega) (by omega), iand_255n (by omega) (by omega), wrap8m (by omega), wrap8m (by omega)]
  simp
 unfold fuel0
 rw [i_putBytes_l1, show (2 : Int) - 1 = 1 from rfl, decide_eq_true (by omega), cond_true, grd_i, grd_pos (by omega), grd_pos (by rw [List.length_append]; simp; omega), grd_i, show (1 : Int) - 1 = 0 from rfl,
  i_putBytes_l1, decide_eq_true (by omega), cond_true, grd_i, grd_pos (by omega), grd_pos (by simp only [List.length_append, List.length_singleton]; omega), grd_i, i_putBytes_l1, decide_eq_false (by omega), cond_false, bnd1_mk]
 refine ⟨_, rfl, ?_, blk_app hb (blk_cons (wrap8_rng _) (blk_w _))⟩
 show some ((b ++ [IntKind.u8.wrap (ishr .i64 k 8)]) ++ [IntKind.u8.wrap (ishr .i64 k 0)]) = _
 rw [e1, List.append_assoc]; rfl
theorem put4_same {b : List Int} {k : Int} {n : Nat} (hb : blk b n) (hn : n ≤ 900000) (hk : k < 9223372036854775808) : ∃ r, s_Put4 b k = some r ∧ i_Put4 b k = some r ∧ blk r (n + 4) := by
 have hl := hb.1
 unfold s_Put4 i_Put4 i_putBytes
 rw [slices_Clone_byte_eq (by omega), bnd1_mk, List.nil_append, grd_pos (by omega), s_l1In_eq, bnd1_mk]
 by_cases c1 : k < 0
 ·rw [decide_eq_false (by omega), Bool.false_and, Bool.not_false, cond_true, decide_eq_true c1, cond_true]
  exact ⟨b, rfl, rfl, blk_le hb (by omega)⟩
 rw [decide_eq_true (by omega), Bool.true_and, decide_eq_false c1, cond_false]
 unfold i_putBytes_j0
 by_cases c2 : 2147483647 < k
 ·rw [decide_eq_false (by omega), Bool.not_false, cond_true, decide_eq_true c2, cond_true]
  exact ⟨b, rfl, rfl, blk_le hb (by omega)⟩
 rw [decide_eq_true (by omega), Bool.not_true, cond_false, decide_eq_false c2, cond_false, grd_pos (by rw [List.length_append]; simp; omega), grd_i]
 have e0 : IntKind.u8.wrap (ishr .i64 k 0) = IntKind.u8.wrap (iand .i64 k 255) := by
  rw [ishr_nat (by omega) (by omega), iand_255n (by omega) (by omega), wrap8m (by omega), wrap8m (by omega)]
  simp
 have es : ∀ j : Nat, j ≤ 64 → 0 ≤ ishr .i64 k j ∧ ishr .i64 k j < 9223372036854775808 := fun j hj => by
  rw [ishr_nat (by omega) hj]
  have h2 : (0 : Int) < 2 ^ j := Int.pow_pos (by decide)
  exact ⟨Int.ediv_nonneg (by omega) (by omega), by
   have := Int.ediv_le_self (2 ^ j) (show 0 ≤ k by omega)
   omega⟩
 have e1 : ∀ j : Nat, j ≤ 64 → IntKind.u8.wrap (iand .i64 (ishr .i64 k j) 255) = IntKind.u8.wrap (ishr .i64 k j) := fun j hj => by
  obtain ⟨h1, h2⟩ := es j hj
  rw [iand_255n h1 h2, wrap8m (by omega), wrap8m h1]
  omega
 unfold fuel0
 rw [e1 16 (by omega), e1 8 (by omega), ← e0, i_putBytes_l1, show (4 : Int) - 1 = 3 from rfl, decide_eq_true (by omega), cond_true, grd_i, grd_pos (by omega), grd_pos (by rw [List.length_append]; simp; omega), grd_i, show (3 : Int) - 1 = 2 from rfl,
  i_putBytes_l1, decide_eq_true (by omega), cond_true, grd_i, grd_pos (by omega), grd_pos (by simp only [List.length_append, List.length_singleton]; omega), grd_i, show (2 : Int) - 1 = 1 from rfl,
  i_putBytes_l1, decide_eq_true (by omega), cond_true, grd_i, grd_pos (by omega), grd_pos (by simp only [List.length_append, List.length_singleton]; omega), grd_i, show (1 : Int) - 1 = 0 from rfl,
  i_putBytes_l1, decide_eq_true (by omega), cond_true, grd_i, grd_pos (by omega), grd_pos (by simp only [List.length_append, List.length_singleton]; omega), grd_i, i_putBytes_l1, decide_eq_false (by omega), cond_false, bnd1_mk]
 refine ⟨_, rfl, ?_, blk_app hb (blk_cons (wrap8_rng _) (blk_cons (wrap8_rng _) (blk_cons (wrap8_rng _) (blk_w _))))⟩
 show some ((((b ++ [IntKind.u8.wrap (ishr .i64 k 24)]) ++ [IntKind.u8.wrap (ishr .i64 k 16)]) ++ [IntKind.u8.wrap (ishr .i64 k 8)]) ++ [IntKind.u8.wrap (ishr .i64 k 0)]) = _
 simp only [List.append_assoc, List.singleton_append]; rfl
def lab (s : ByteArray) : List Int := (s.size : Int) :: bytesOf s
theorem lab_blk {s : ByteArray} (h : labelP s = true) : blk (lab s) 13 := by
 have := labelP_size h
 exact blk_le (blk_cons (by omega) (blk_bytes s)) (by omega)
theorem lab_len {s : ByteArray} (h : labelP s = true) : (lab s).length ≤ 13 := (lab_blk h).1
theorem s_PutLabel_eq {b : List Int} {s : ByteArray} (hb : b.length ≤ 900000) (h : labelP s = true) : s_PutLabel b s = some (b ++ lab s) := by
 have hs := labelP_size h
 have e : IntKind.u8.wrap (s.size : Int) = (s.size : Int) := wrap8 (by omega)
 unfold s_PutLabel
 rw [List.nil_append, grd_pos (by omega), s_LabelOk_eq (by omega), bnd1_mk, h, Bool.not_true, cond_false, grd_pos (by simp; omega), grd_pos (by simp [bytesOf_len]; omega), e, List.append_assoc]; rfl
theorem i_PutLabel_eq {b : List Int} {s : ByteArray} (hb : b.length ≤ 900000) (h : labelP s = true) : i_PutLabel b s = some (b ++ lab s) := by
 have hs := labelP_size h
 have e : IntKind.u8.wrap (s.size : Int) = (s.size : Int) := wrap8 (by omega)
 unfold i_PutLabel
 rw [slices_Clone_byte_eq (by omega), bnd1_mk, i_LabelOk_eq (by omega), bnd1_mk, h, Bool.not_true, cond_false, grd_pos (by simp; omega), grd_pos (by simp [bytesOf_len]; omega), e, List.append_assoc]; rfl
theorem flat_lab : ∀ {l : List ByteArray}, (∀ x, x ∈ l → labelP x = true) → blk (l.flatMap lab) (13 * l.length)
 | [], _ => blk_nil
 | x :: l, h => by
  rw [List.flatMap_cons, List.length_cons, show 13 * (l.length + 1) = 13 + 13 * l.length by omega]
  exact blk_app (lab_blk (h x (.head _))) (flat_lab fun y hy => h y (.tail _ hy))
theorem s_PutPlain_l1_eq : ∀ (l : List ByteArray) (out : List Int) (i : Nat), (∀ x, x ∈ l → labelP x = true) → out.length + 13 * l.length ≤ 800000 → s_PutPlain_l1 l out i = some ((out ++ l.flatMap lab) ++ [0])
 | [], out, i, _, h => by
  rw [s_PutPlain_l1]; unfold s_PutPlain_j0
  rw [grd_pos (by simp; omega)]; simp
 | x :: l, out, i, h, hl => by
  have hx := h x (.head _)
  have := lab_len hx
  simp only [List.length_cons] at hl
  rw [s_PutPlain_l1, s_PutLabel_eq (by omega) hx, bnd1_mk, s_PutPlain_l1_eq l _ _ (fun y hy => h y (.tail _ hy)) (by rw [List.length_append]; omega), List.flatMap_cons]
  simp only [List.append_assoc]
theorem i_PutPlain_l1_eq : ∀ (l : List ByteArray) (out : List Int) (i : Nat), (∀ x, x ∈ l → labelP x = true) → out.length + 13 * l.length ≤ 800000 → i_PutPlain_l1 l out i = some ((out ++ l.flatMap lab) ++ [0])
 | [], out, i, _, h => by
  rw [i_PutPlain_l1]; unfold i_PutPlain_j0
  rw [grd_pos (by simp; omega)]; simp
 | x :: l, out, i, h, hl => by
  have hx := h x (.head _)
  have := lab_len hx
  simp only [List.length_cons] at hl
  rw [i_PutPlain_l1, i_PutLabel_eq (by omega) hx, bnd1_mk, i_PutPlain_l1_eq l _ _ (fun y hy => h y (.tail _ hy)) (by rw [List.length_append]; omega), List.flatMap_cons]
  simp only [List.append_assoc]
theorem nameP_labels {s : ByteArray} (h : nameP s = true) : (∀ x, x ∈ labels s → labelP x = true) ∧ (labels s).length ≤ 6 := by
 unfold nameP at h
 simp only [Bool.and_eq_true, decide_eq_true_eq] at h
 exact ⟨fun x hx => List.all_eq_true.1 h.1 x hx, by omega⟩
theorem putPlain_same {b : List Int} {s : ByteArray} {n : Nat} (hb : blk b n) (hn : n ≤ 700000) (hs : s.size ≤ 1048576) : ∃ r, s_PutPlain b s = some r ∧ i_PutPlain b s = some r ∧ blk r (n + 79) ∧ (nameP s = true → r = (b ++ (labels s).flatMap lab) ++ [0]) := by
 have hl := hb.1
 unfold s_PutPlain i_PutPlain
 rw [List.nil_append, grd_pos (by omega), s_NameOk_eq hs, bnd1_mk, slices_Clone_byte_eq (by omega), bnd1_mk, i_NameOk_eq hs, bnd1_mk]
 cases hp : nameP s with
 | false => exact ⟨b, rfl, rfl, blk_le hb (by omega), fun h => by cases h⟩
 | true =>
  obtain ⟨h1, h2⟩ := nameP_labels hp
  rw [Bool.not_true, cond_false, cond_false, s_Labels_eq hs, bnd1_mk, i_Labels_eq hs, bnd1_mk, s_PutPlain_l1_eq _ _ _ h1 (by omega), i_PutPlain_l1_eq _ _ _ h1 (by omega)]
  exact ⟨_, rfl, rfl, blk_le (blk_app (blk_app hb (flat_lab h1)) (blk_cons (by omega) blk_nil)) (by omega), fun _ => rfl⟩
theorem joinB_tail {l : List ByteArray} (x : ByteArray) : (joinB l ⟨#[46]⟩).size ≤ (joinB (x :: l) ⟨#[46]⟩).size := by
 by_cases c : l = []
 ·rw [c, joinB_nil]; exact Nat.zero_le _
 ·rw [joinB_cons x _ c, size_app, size_app]; omega
theorem joinB_grow (l : List ByteArray) (x : ByteArray) : (joinB l ⟨#[46]⟩).size ≤ (joinB (l ++ [x]) ⟨#[46]⟩).size := by
 by_cases c : l = []
 ·rw [c, joinB_nil]; exact Nat.zero_le _
 ·rw [joinB_snoc x _ c, size_app, size_app]; omega
theorem joinB_mono : ∀ (t l : List ByteArray), (joinB l ⟨#[46]⟩).size ≤ (joinB (l ++ t) ⟨#[46]⟩).size
 | [], l => by rw [List.append_nil]; exact Nat.le_refl _
 | x :: t, l => by
  have h1 := joinB_grow l x
  have h2 := joinB_mono t (l ++ [x])
  rw [List.append_assoc, List.singleton_append] at h2
  omega
theorem s_JoinLabels_l0_eq : ∀ (t pre : List ByteArray), (joinB (pre ++ t) ⟨#[46]⟩).size ≤ 1000000 → s_JoinLabels_l0 t (joinB pre ⟨#[46]⟩) pre.length = some (joinB (pre ++ t) ⟨#[46]⟩)
 | [], pre, _ => by rw [s_JoinLabels_l0, List.append_nil]
 | x :: t, pre, h => by
  have h1 := joinB_mono t (pre ++ [x])
  rw [List.append_assoc, List.singleton_append] at h1
  have ih := s_JoinLabels_l0_eq t (pre ++ [x]) (by rw [List.append_assoc, List.singleton_append]; exact h)
  simp only [List.length_append, List.length_singleton, List.append_assoc, List.singleton_append] at ih
  rw [s_JoinLabels_l0]
  unfold s_JoinLabels_j1
  by_cases c : pre = []
  ·subst c
   rw [decide_eq_false (by simp), cond_false, joinB_nil]
   have e : (⟨#[]⟩ : ByteArray) ++ x = joinB ([] ++ [x]) ⟨#[46]⟩ := by rw [List.nil_append, joinB_one]; apply ba_ext; rw [ba_app]; rfl
   have e2 : x.size ≤ 1000000 := by rw [List.nil_append, joinB_one] at h1; omega
   rw [grd_pos (by show 0 + x.size ≤ _; omega), e]
   exact ih
  ·have hp : 0 < pre.length := List.length_pos_iff.2 c
   have e := joinB_snoc x (⟨#[46]⟩ : ByteArray) c
   have e3 : (joinB (pre ++ [x]) ⟨#[46]⟩).size = (joinB pre ⟨#[46]⟩).size + 1 + x.size := by rw [e, size_app, size_app]; rfl
   rw [decide_eq_true (by omega), cond_true, grd_pos (by show _ + 1 ≤ _; omega), grd_pos (by rw [size_app]; show _ + 1 + _ ≤ _; omega), ← e]
   exact ih
theorem s_JoinLabels_eq {l : List ByteArray} (h : (joinB l ⟨#[46]⟩).size ≤ 1000000) : s_JoinLabels l = some (joinB l ⟨#[46]⟩) := by
 have := s_JoinLabels_l0_eq l [] h
 rw [joinB_nil] at this
 exact this
def sufJ : List ByteArray → List ByteArray
 | [] => []
 | x :: t => joinB (x :: t) ⟨#[46]⟩ :: sufJ t
theorem drop_pre (pre t : List ByteArray) : ((pre ++ t).drop (0 + ((pre.length : Nat) : Int).toNat)).take (((pre ++ t).length : Int).toNat - ((pre.length : Nat) : Int).toNat) = t := by
 rw [Nat.zero_add, Int.toNat_natCast, Int.toNat_natCast, List.drop_left, List.length_append, Nat.add_sub_cancel_left, List.take_length]
theorem i_Above_l1_eq : ∀ (t pre out : List ByteArray), out.length + t.length ≤ 1000 → t.length ≤ 1000 → (joinB t ⟨#[46]⟩).size ≤ 1000000 → i_Above_l1 (pre ++ t) t out pre.length = some ((out ++ sufJ t) ++ [⟨#[]⟩])
 | [], pre, out, h, _, _ => by
  rw [i_Above_l1]; unfold i_Above_j0
  rw [grd_pos (by simp at h ⊢; omega), sufJ, List.append_nil]
 | x :: t, pre, out, h, ht, hj => by
  simp only [List.length_cons] at h ht
  have h1 := @joinB_tail t x
  have ih := i_Above_l1_eq t (pre ++ [x]) (out ++ [joinB (x :: t) ⟨#[46]⟩]) (by simp; omega) (by omega) (by omega)
  simp only [List.length_append, List.length_singleton, List.append_assoc, List.singleton_append] at ih
  rw [i_Above_l1, drop_pre, grd_pos (by simp; omega), i_JoinLabels_eq (by simp; omega) (by omega), bnd1_mk, grd_pos (by simp; omega), ih, sufJ]
  simp
theorem s_Above_l0_eq : ∀ (t pre out : List ByteArray) (fl : Nat), t.length + 2 ≤ fl → out.length + t.length ≤ 1000 → pre.length + t.length ≤ 1000 → (joinB t ⟨#[46]⟩).size ≤ 1000000 → s_Above_l0 (pre ++ t) fl out ((pre.length : Nat) : Int) = some ((out ++ sufJ t) ++ [⟨#[]⟩])
 | [], pre, out, fl, hf, h, hp, _ => by
  obtain ⟨fl, rfl⟩ : ∃ q, fl = q + 2 := ⟨fl - 2, by simp at hf; omega⟩
  have e := drop_pre pre []
  rw [s_Above_l0, decide_eq_true (by simp), cond_true, e, grd_pos (by simp), s_JoinLabels_eq (by rw [joinB_nil]; show (0 : Nat) ≤ _; omega), bnd1_mk, joinB_nil, grd_pos (by simp at h ⊢; omega), grd_pos (by simp only [i64]; simp at hp; omega), s_Above_l0, decide_eq_false (by simp; omega), cond_false, sufJ, List.append_nil]
 | x :: t, pre, out, fl, hf, h, hp, hj => by
  simp only [List.length_cons] at h hp hf
  obtain ⟨fl, rfl⟩ : ∃ q, fl = q + 1 := ⟨fl - 1, by omega⟩
  have h1 := @joinB_tail t x
  have ih := s_Above_l0_eq t (pre ++ [x]) (out ++ [joinB (x :: t) ⟨#[46]⟩]) fl (by omega) (by simp; omega) (by simp; omega) (by omega)
  simp only [List.length_append, List.length_singleton, List.append_assoc, List.singleton_append] at ih
  have e : ((pre.length : Nat) : Int) + 1 = ((pre.length + 1 : Nat) : Int) := by omega
  rw [s_Above_l0, decide_eq_true (by simp; omega), cond_true, drop_pre, grd_pos (by simp; omega), s_JoinLabels_eq (by omega), bnd1_mk, grd_pos (by simp; omega), grd_i, e, ih, sufJ]
  simp
theorem labels_join {s : ByteArray} : (joinB (labels s) ⟨#[46]⟩).size ≤ s.size := by
 by_cases c : s = ⟨#[]⟩
 ·subst c
  show (joinB [] ⟨#[46]⟩).size ≤ _
  rw [joinB_nil]; exact Nat.le_refl _
 ·rw [joinB_labels c]; exact Nat.le_refl _
theorem i_Above_eq {s : ByteArray} (hs : s.size ≤ 900) : i_Above s = some (sufJ (labels s) ++ [⟨#[]⟩]) := by
 have h1 := labels_len s
 have h2 := @labels_join s
 unfold i_Above
 rw [i_Labels_eq (by omega), bnd1_mk]
 exact i_Above_l1_eq (labels s) [] [] (by simp; omega) (by omega) (by omega)
theorem s_Above_eq {s : ByteArray} (hs : s.size ≤ 900) : s_Above s = some (sufJ (labels s) ++ [⟨#[]⟩]) := by
 have h1 := labels_len s
 have h2 := @labels_join s
 unfold s_Above
 rw [s_Labels_eq (by omega), bnd1_mk]
 by_cases c : s = ⟨#[]⟩
 ·subst c
  show s_Above_l0 [] fuel0 [⟨#[]⟩] 1 = some ([] ++ [⟨#[]⟩])
  unfold fuel0
  rw [s_Above_l0, decide_eq_false (by simp), cond_false]; rfl
 ·have hj := joinB_labels c
  cases hl : labels s with
  | nil =>
   rw [hl, joinB_nil] at hj
   exact absurd hj.symm c
  | cons x t =>
   rw [hl] at hj h1 h2
   have h3 := @joinB_tail t x
   simp only [List.length_cons] at h1
   have := s_Above_l0_eq t [x] [s] fuel0 (by unfold fuel0; omega) (by simp; omega) (by simp; omega) (by omega)
   rw [sufJ, hj]
   simpa using this
theorem placeOf_same {b : List Int} {s : ByteArray} (hb : ∀ x, x ∈ b → 0 ≤ x ∧ x < 256) (hl : b.length ≤ 1048576) : ∀ (k fl i : Nat), b.length - i ≤ k → k < fl → ∃ v, s_PlaceOf_l0 b s fl (i : Int) = some v ∧ i_PlaceOf_l0 b s fl (i : Int) = some v ∧ -1 ≤ v ∧ v ≤ 16383
 | k, fl, i, hk, hf => by
  obtain ⟨fl, rfl⟩ : ∃ q, fl = q + 1 := ⟨fl - 1, by omega⟩
  rw [s_PlaceOf_l0, i_PlaceOf_l0]
  unfold s_PlaceOf_j1 i_PlaceOf_j1
  by_cases c : (i : Int) < (b.length : Int)
  ·rw [decide_eq_true c, cond_true, cond_true]
   by_cases c2 : (i : Int) ≤ 16383
   ·rw [decide_eq_true c2, cond_true, cond_true, s_GetName_eq hb hl (by simp only [i64]; omega), i_GetName_eq hb hl (by simp only [i64]; omega)]
    generalize nameAt b (i : Int) = x
    obtain ⟨x1, x2, x3⟩ := x
    rw [bnd3_mk, bnd3_mk]
    have e : (i : Int) + 1 = ((i + 1 : Nat) : Int) := by omega
    have ih : ∃ v, s_PlaceOf_l0 b s fl ((i + 1 : Nat) : Int) = some v ∧ i_PlaceOf_l0 b s fl ((i + 1 : Nat) : Int) = some v ∧ -1 ≤ v ∧ v ≤ 16383 := by
     cases k with
     | zero => omega
     | succ k => exact placeOf_same hb hl k fl (i + 1) (by omega) (by omega)
    unfold s_PlaceOf_j2 i_PlaceOf_j2
    rw [grd_i, grd_i, e]
    cases decide (x3 = 0) with
    | false => exact ih
    | true =>
     rw [cond_true, cond_true]
     cases decide (x1 = s) with
     | false => exact ih
     | true => exact ⟨_, rfl, rfl, by omega, c2⟩
   ·rw [decide_eq_false c2]; exact ⟨-1, rfl, rfl, by omega, by omega⟩
  ·rw [decide_eq_false c]; exact ⟨-1, rfl, rfl, by omega, by omega⟩
def placeP (b : List Int) (s : ByteArray) : Int := (s_PlaceOf b s).getD (-1)
theorem placeP_eq {b : List Int} {s : ByteArray} {n : Nat} (hb : blk b n) (hn : n ≤ 1000000) : s_PlaceOf b s = some (placeP b s) ∧ i_PlaceOf b s = some (placeP b s) ∧ -1 ≤ placeP b s ∧ placeP b s ≤ 16383 := by
 have hl := hb.1
 obtain ⟨v, h1, h2, h3, h4⟩ := placeOf_same (s := s) hb.2 (by omega) b.length fuel0 0 (by omega) (by unfold fuel0; omega)
 have e1 : s_PlaceOf b s = some v := h1
 have e2 : i_PlaceOf b s = some v := h2
 unfold placeP
 rw [e1, e2]
 exact ⟨rfl, rfl, h3, h4⟩
def ptrB (p : Int) : List Int := [IntKind.u8.wrap (192 + IntKind.i64.wrap (Int.tdiv p 256)), IntKind.u8.wrap (Int.tmod p 256)]
theorem ptrB_blk (p : Int) : blk (ptrB p) 2 := blk_cons (wrap8_rng _) (blk_w _)
def nameOut (b : List Int) : List ByteArray → List Int → List Int
 | [], out => out ++ [0]
 | x :: t, out => if 0 ≤ placeP b (joinB (x :: t) ⟨#[46]⟩) then out ++ ptrB (placeP b (joinB (x :: t) ⟨#[46]⟩)) else nameOut b t (out ++ lab x)
theorem nameOut_blk {b : List Int} : ∀ (t : List ByteArray) (out : List Int) (n : Nat), (∀ x, x ∈ t → labelP x = true) → blk out n → blk (nameOut b t out) (n + 13 * t.length + 2)
 | [], out, n, _, h => blk_le (blk_app h (blk_cons (by omega) blk_nil)) (by simp)
 | x :: t, out, n, ht, h => by
  rw [nameOut]
  by_cases c : 0 ≤ placeP b (joinB (x :: t) ⟨#[46]⟩)
  ·rw [if_pos c]; exact blk_le (blk_app h (ptrB_blk _)) (by omega)
  ·rw [if_neg c]
   exact blk_le (nameOut_blk t _ _ (fun y hy => ht y (.tail _ hy)) (blk_app h (lab_blk (ht x (.head _))))) (by simp only [List.length_cons]; omega)
theorem sufJ_at : ∀ (pre t : List ByteArray) (x : ByteArray) (E : List ByteArray), (sufJ (pre ++ x :: t) ++ E)[pre.length]? = some (joinB (x :: t) ⟨#[46]⟩)
 | [], t, x, E => by rw [List.nil_append, sufJ]; rfl
 | p :: pre, t, x, E => by
  rw [List.cons_append, sufJ, List.cons_append, List.length_cons, List.getElem?_cons_succ]
  exact sufJ_at pre t x E
theorem ptr_ok {p : Int} (h : 0 ≤ p ∧ p ≤ 16383) : i64 (192 + IntKind.i64.wrap (Int.tdiv p 256)) := by
 have e : Int.tdiv p 256 = p / 256 := Int.tdiv_eq_ediv_of_nonneg h.1
 rw [e, wrap_id (by omega)]
 simp only [i64]; omega
theorem s_PutName_l1_eq {b : List Int} {n : Nat} (hb : blk b n) (hn : n ≤ 500000) : ∀ (t pre : List ByteArray) (out : List Int), (∀ x, x ∈ t → labelP x = true) → out.length + 13 * t.length ≤ 800000 → s_PutName_l1 b (sufJ (pre ++ t) ++ [⟨#[]⟩]) t out pre.length = some (nameOut b t out)
 | [], pre, out, _, h => by
  rw [s_PutName_l1]; unfold s_PutName_j0
  rw [grd_pos (by simp at h ⊢; omega), nameOut]
 | x :: t, pre, out, ht, h => by
  obtain ⟨p1, -, p3, p4⟩ := placeP_eq (s := joinB (x :: t) ⟨#[46]⟩) hb (by omega)
  simp only [List.length_cons] at h
  rw [s_PutName_l1, idx_nat, sufJ_at, bnd1_mk, p1, bnd1_mk, nameOut]
  by_cases c : 0 ≤ placeP b (joinB (x :: t) ⟨#[46]⟩)
  ·rw [decide_eq_true c, cond_true, if_pos c, grd_pos (ptr_ok ⟨c, p4⟩), grd_pos (by simp; omega)]; rfl
  ·have hx := ht x (.head _)
   have hl := lab_len hx
   have ih := s_PutName_l1_eq hb hn t (pre ++ [x]) (out ++ lab x) (fun y hy => ht y (.tail _ hy)) (by rw [List.length_append]; omega)
   simp only [List.length_append, List.length_singleton, List.append_assoc, List.singleton_append] at ih
   rw [decide_eq_false c, cond_false, if_neg c, s_PutLabel_eq (by omega) hx, bnd1_mk]
   exact ih
theorem i_PutName_l4_eq {x6 : List ByteArray} {p : Int} {pre t : List ByteArray} (h6 : x6 = pre ++ t) (hp : ∀ x, x ∈ pre → labelP x = true) : ∀ (r q : List ByteArray) (out : List Int) (fl : Nat), pre = q ++ r → r.length < fl → out.length + 13 * r.length ≤ 800000 → pre.length ≤ 1000 → i_PutName_l4 x6 pre.length p fl out ((q.length : Nat) : Int) = i_PutName_j3 p (out ++ r.flatMap lab)
 | [], q, out, fl, hq, hf, ho, hl => by
  obtain ⟨fl, rfl⟩ : ∃ k, fl = k + 1 := ⟨fl - 1, by omega⟩
  rw [List.append_nil] at hq
  subst hq
  rw [i_PutName_l4, decide_eq_false (by simp), cond_false, List.flatMap_nil, List.append_nil]
 | x :: r, q, out, fl, hq, hf, ho, hl => by
  obtain ⟨fl, rfl⟩ : ∃ k, fl = k + 1 := ⟨fl - 1, by omega⟩
  simp only [List.length_cons] at hf ho
  have hx := hp x (by rw [hq]; simp)
  have hb := lab_len hx
  have e1 : ((x6.drop (0 + ((0 : Nat) : Int).toNat)).take (((pre.length : Nat) : Int).toNat - ((0 : Nat) : Int).toNat)) = pre := by rw [h6]; simp
  have hlt : q.length < pre.length := by rw [hq]; simp
  have e2 : pre[q.length]? = some x := by rw [hq]; simp
  have e3 : ((q.length : Nat) : Int) + 1 = ((q.length + 1 : Nat) : Int) := by omega
  have ih := i_PutName_l4_eq (p := p) h6 hp r (q ++ [x]) (out ++ lab x) fl (by rw [hq]; simp) (by omega) (by rw [List.length_append]; omega) hl
  rw [List.length_append, List.length_singleton] at ih
  rw [i_PutName_l4, decide_eq_true (by simp; omega), cond_true, e1, idx_nat, e2, bnd1_mk, i_PutLabel_eq (by omega) hx, bnd1_mk, grd_i, e3, ih, List.flatMap_cons]
  simp
theorem i_PutName_l1_eq {b : List Int} {s : ByteArray} {n : Nat} (hb : blk b n) (hn : n ≤ 500000) {ls : List ByteArray} (hls : ∀ x, x ∈ ls → labelP x = true) (hl6 : ls.length ≤ 6) (hpl : i_PutPlain b s = some ((b ++ ls.flatMap lab) ++ [0])) : ∀ (t pre : List ByteArray), ls = pre ++ t → i_PutName_l1 b s b ls (sufJ t ++ [⟨#[]⟩]) pre.length = some (nameOut b t (b ++ pre.flatMap lab))
 | [], pre, h => by
  obtain ⟨-, p2, -, -⟩ := placeP_eq (s := ⟨#[]⟩) hb (by omega)
  rw [List.append_nil] at h
  rw [sufJ, List.nil_append, i_PutName_l1, p2, bnd1_mk, decide_eq_true rfl, cond_true]
  unfold i_PutName_j2
  rw [cond_true, i_PutName_l1]
  unfold i_PutName_j0
  rw [hpl, bnd1_mk, nameOut, h]
 | x :: t, pre, h => by
  have hbl := hb.1
  have hx : labelP x = true := hls x (by rw [h]; simp)
  have hxs := labelP_size hx
  have hpre : ∀ y, y ∈ pre → labelP y = true := fun y hy => hls y (by rw [h]; simp [hy])
  have hlen : pre.length + (t.length + 1) = ls.length := by rw [h]; simp
  obtain ⟨-, p2, p3, p4⟩ := placeP_eq (s := joinB (x :: t) ⟨#[46]⟩) hb (by omega)
  have hne : ¬ (joinB (x :: t) ⟨#[46]⟩ = ⟨#[]⟩) := fun e => by
   have h1 := joinB_mono t [x]
   rw [List.singleton_append, e, joinB_one] at h1
   have h0 : (⟨#[]⟩ : ByteArray).size = 0 := rfl
   omega
  have ih := i_PutName_l1_eq (s := s) hb hn hls hl6 hpl t (pre ++ [x]) (by rw [h]; simp)
  rw [List.length_append, List.length_singleton, List.flatMap_append, List.flatMap_cons, List.flatMap_nil, List.append_nil, ← List.append_assoc] at ih
  rw [sufJ, List.cons_append, i_PutName_l1, p2, bnd1_mk, decide_eq_false hne, cond_false, nameOut]
  unfold i_PutName_j2
  by_cases c : 0 ≤ placeP b (joinB (x :: t) ⟨#[46]⟩)
  ·have h4 := i_PutName_l4_eq (p := placeP b (joinB (x :: t) ⟨#[46]⟩)) h hpre pre [] b fuel0 rfl (by unfold fuel0; omega) (by omega) (by omega)
   have hfl := (flat_lab hpre).1
   rw [decide_eq_false (by omega), cond_false, grd_pos (by simp; omega), if_pos c]
   have h4' : i_PutName_l4 ls pre.length (placeP b (joinB (x :: t) ⟨#[46]⟩)) fuel0 b 0 = i_PutName_j3 (placeP b (joinB (x :: t) ⟨#[46]⟩)) (b ++ pre.flatMap lab) := h4
   rw [h4']
   unfold i_PutName_j3
   rw [grd_pos (ptr_ok ⟨c, p4⟩), grd_pos (by simp only [List.length_append, List.length_cons, List.length_nil]; omega)]; rfl
  ·rw [decide_eq_true (by omega), cond_true, if_neg c]
   exact ih
theorem putName_same {b : List Int} {s : ByteArray} {n : Nat} (hb : blk b n) (hn : n ≤ 400000) (hs : s.size ≤ 1048576) : ∃ r, s_PutName b s = some r ∧ i_PutName b s = some r ∧ blk r (n + 80) := by
 have hl := hb.1
 obtain ⟨q, q1, q2, q3, q4⟩ := putPlain_same (s := s) hb (by omega) hs
 unfold s_PutName i_PutName
 rw [List.nil_append, grd_pos (by omega), s_NameOk_eq hs, bnd1_mk, slices_Clone_byte_eq (by omega), bnd1_mk, i_NameOk_eq hs, bnd1_mk]
 cases hp : nameP s with
 | false => exact ⟨b, rfl, rfl, blk_le hb (by omega)⟩
 | true =>
  obtain ⟨h1, h2⟩ := nameP_labels hp
  have h3 := nameP_size hp
  have h5 := s_PutName_l1_eq hb (by omega) (labels s) [] b h1 (by omega)
  have h6 := i_PutName_l1_eq (s := s) hb (by omega) h1 h2 (by rw [q2, q4 hp]) (labels s) [] rfl
  rw [List.flatMap_nil, List.append_nil] at h6
  rw [Bool.not_true, cond_false, cond_false, s_Above_eq (by omega), bnd1_mk, s_Labels_eq hs, bnd1_mk, i_Labels_eq hs, bnd1_mk, i_Above_eq (by omega), bnd1_mk]
  exact ⟨_, h5, h6, blk_le (nameOut_blk (labels s) b n h1 hb) (by omega)⟩
theorem putData_same {r : Rec} (h : r.sm) : ∃ d, s_PutData r = some d ∧ i_PutData r = some d ∧ blk d 200 := by
 obtain ⟨h1, h2, h3⟩ := id h
 unfold s_PutData i_PutData
 rw [s_RecordOk_eq h, bnd1_mk, i_RecordOk_eq h, bnd1_mk]
 cases hp : recP r with
 | false => exact ⟨[], rfl, rfl, blk_le blk_nil (by omega)⟩
 | true =>
  rw [Bool.not_true, cond_false, cond_false]
  obtain ⟨q, q1, q2, q3, -⟩ := putPlain_same (s := r.host) blk_nil (by omega) h2
  unfold recP at hp
  simp only [Bool.and_eq_true] at hp
  obtain ⟨-, -, hp⟩ := hp
  unfold i_PutData_j0
  by_cases c1 : r.ty = 1
  ·rw [decide_eq_true c1, cond_true] at hp
   simp only [Bool.and_eq_true, inP, decide_eq_true_eq] at hp
   obtain ⟨d, d1, d2, d3⟩ := put4_same (k := r.n) blk_nil (by omega) (by omega)
   rw [decide_eq_true c1, cond_true, cond_true, d1, bnd1_mk, d2, bnd1_mk]
   exact ⟨d, rfl, rfl, blk_le d3 (by omega)⟩
  rw [decide_eq_false c1, cond_false] at hp
  rw [decide_eq_false c1, cond_false, cond_false]
  by_cases c2 : r.ty = 2
  ·rw [decide_eq_true c2, cond_true, cond_true, q2, bnd1_mk, decide_eq_false (by omega), cond_false, decide_eq_false (by omega), cond_false, q1, bnd1_mk]
   exact ⟨q, rfl, rfl, blk_le q3 (by omega)⟩
  rw [decide_eq_false c2, Bool.false_or] at hp
  rw [decide_eq_false c2, cond_false]
  by_cases c5 : r.ty = 5
  ·rw [decide_eq_true c5, cond_true, q2, bnd1_mk, decide_eq_false (by omega), cond_false, decide_eq_false (by omega), cond_false, q1, bnd1_mk]
   exact ⟨q, rfl, rfl, blk_le q3 (by omega)⟩
  rw [decide_eq_false c5, cond_false] at hp
  rw [decide_eq_false c5, cond_false]
  by_cases c6 : r.ty = 6
  ·rw [decide_eq_true c6, cond_true] at hp
   simp only [Bool.and_eq_true, inP, decide_eq_true_eq] at hp
   obtain ⟨d, d1, d2, d3⟩ := put4_same (k := r.n) q3 (by omega) (by omega)
   rw [decide_eq_true c6, cond_true, cond_true, q1, bnd1_mk, d1, bnd1_mk, q2, bnd1_mk, d2, bnd1_mk]
   exact ⟨d, rfl, rfl, blk_le d3 (by omega)⟩
  ·rw [decide_eq_false c6, cond_false] at hp
   simp only [Bool.and_eq_true, decide_eq_true_eq] at hp
   obtain ⟨c16, -, -, ht⟩ := hp
   unfold textP at ht
   simp only [Bool.and_eq_true, decide_eq_true_eq] at ht
   have hb := blk_app (blk_w (r.text.size : Int)) (blk_bytes r.text)
   have hl := hb.1
   rw [decide_eq_false c6, cond_false, cond_false, decide_eq_true c16, cond_true, grd_pos (by omega)]
   exact ⟨_, rfl, rfl, blk_le hb (by omega)⟩
theorem putRecord_same {b : List Int} {r : Rec} {n : Nat} (hb : blk b n) (hn : n ≤ 300000) (h : r.sm) (ht : i64 r.ty ∧ i64 r.ttl) : ∃ d, s_PutRecord b r = some d ∧ i_PutRecord b r = some d ∧ blk d (n + 300) := by
 obtain ⟨h1, h2, h3⟩ := id h
 have hl := hb.1
 simp only [i64] at ht
 unfold s_PutRecord i_PutRecord
 rw [List.nil_append, s_RecordOk_eq h, bnd1_mk, i_RecordOk_eq h, bnd1_mk, grd_pos (by omega), grd_pos (by omega)]
 cases hp : recP r with
 | false => exact ⟨b, rfl, rfl, blk_le hb (by omega)⟩
 | true =>
  obtain ⟨d, d1, d2, d3⟩ := putData_same h
  obtain ⟨x, x1, x2, x3⟩ := putName_same (s := r.name) hb (by omega) h1
  obtain ⟨y, y1, y2, y3⟩ := put2_same (k := r.ty) x3 (by omega) (by omega)
  obtain ⟨z, z1, z2, z3⟩ := put2_same (k := 1) y3 (by omega) (by omega)
  obtain ⟨u, u1, u2, u3⟩ := put4_same (k := r.ttl) z3 (by omega) (by omega)
  have hd := d3.1
  obtain ⟨v, v1, v2, v3⟩ := put2_same (k := (d.length : Int)) u3 (by omega) (by omega)
  have hv := blk_app v3 d3
  have hvl := hv.1
  rw [Bool.not_true, cond_false, cond_false, x1, bnd1_mk, y1, bnd1_mk, z1, bnd1_mk, u1, bnd1_mk, d1, bnd1_mk, v1, bnd1_mk, d2, bnd1_mk, x2, bnd1_mk, y2, bnd1_mk, z2, bnd1_mk, u2, bnd1_mk, v2, bnd1_mk, grd_pos (by omega)]
  exact ⟨_, rfl, rfl, blk_le hv (by omega)⟩
theorem putRecords_l0_same : ∀ (l : List Rec) (b : List Int) (i : Nat) (n : Nat), blk b n → n + 300 * l.length ≤ 300000 → (∀ r, r ∈ l → r.sm ∧ i64 r.ty ∧ i64 r.ttl) → ∃ d, s_PutRecords_l0 l b i = some d ∧ i_PutRecords_l0 l b i = some d ∧ blk d (n + 300 * l.length)
 | [], b, i, n, hb, _, _ => ⟨b, rfl, rfl, hb⟩
 | r :: l, b, i, n, hb, hn, h => by
  simp only [List.length_cons] at hn ⊢
  obtain ⟨h1, h2⟩ := h r (.head _)
  obtain ⟨d, d1, d2, d3⟩ := putRecord_same hb (by omega) h1 h2
  obtain ⟨e, e1, e2, e3⟩ := putRecords_l0_same l d (i + 1) (n + 300) d3 (by omega) fun q hq => h q (.tail _ hq)
  rw [s_PutRecords_l0, d1, bnd1_mk, i_PutRecords_l0, d2, bnd1_mk]
  exact ⟨e, e1, e2, blk_le e3 (by omega)⟩
theorem putRecords_same {b : List Int} {l : List Rec} {n : Nat} (hb : blk b n) (hn : n + 300 * l.length ≤ 300000) (h : ∀ r, r ∈ l → r.sm ∧ i64 r.ty ∧ i64 r.ttl) : ∃ d, s_PutRecords b l = some d ∧ i_PutRecords b l = some d ∧ blk d (n + 300 * l.length) := by
 have hl := hb.1
 unfold s_PutRecords i_PutRecords
 rw [List.nil_append, grd_pos (by omega), grd_pos (by omega)]
 exact putRecords_l0_same l b 0 n hb hn h
def msgP (m : MMsg) : Bool := inP m.id 0 65535 && (inP m.code 0 15 && (questP m.q && (listP 8 m.an && (listP 8 m.au && listP 8 m.ad))))
theorem s_MsgOk_eq {m : MMsg} (h : m.sm) : s_MsgOk m = some (msgP m) := by
 unfold s_MsgOk msgP
 rw [s_l1In_eq, bnd1_mk, s_l1In_eq, bnd1_mk, s_QuestOk_eq h.1, bnd1_mk, s_l7List_eq h.2.1, bnd1_mk, s_l7List_eq h.2.2.1, bnd1_mk, s_l7List_eq h.2.2.2, bnd1_mk]
 unfold inP
 cases (decide (0 ≤ m.id) && decide (m.id ≤ 65535)) <;> cases (decide (0 ≤ m.code) && decide (m.code ≤ 15)) <;> cases questP m.q <;> cases listP 8 m.an <;> cases listP 8 m.au <;> rfl
theorem i_MsgOk_eq {m : MMsg} (h : m.sm) : i_MsgOk m = some (msgP m) := by
 unfold i_MsgOk msgP
 rw [i_QuestOk_eq h.1, bnd1_mk, i_allOk_eq h.2.1, bnd1_mk, i_allOk_eq h.2.2.1, bnd1_mk, i_allOk_eq h.2.2.2, bnd1_mk]
 unfold inP
 cases decide (0 ≤ m.id) <;> cases decide (m.id ≤ 65535) <;> cases decide (0 ≤ m.code) <;> cases decide (m.code ≤ 15) <;> cases questP m.q <;> cases listP 8 m.an <;> cases listP 8 m.au <;> rfl
theorem l8Flag_eq {a : Bool} {k : Int} : s_l8Flag a k = some (bif a then k else 0) := by unfold s_l8Flag; cases a <;> rfl
theorem bit_eq {a : Bool} {k : Int} : i_bit a k = some (bif a then k else 0) := by unfold i_bit; cases a <;> rfl
theorem flag_rng (a : Bool) {k : Int} (h : 0 ≤ k ∧ k ≤ 128) : 0 ≤ (bif a then k else 0) ∧ (bif a then k else 0) ≤ 128 := by cases a <;> simp <;> omega
theorem iand_15 (x : Int) : 0 ≤ iand .i64 x 15 ∧ iand .i64 x 15 ≤ 15 := by
 unfold iand
 have h : (BitVec.ofInt (IntKind.i64).bits x &&& BitVec.ofInt (IntKind.i64).bits 15).toNat ≤ 15 := by
  rw [BitVec.toNat_and]; exact Nat.le_trans Nat.and_le_right (by decide)
 generalize (BitVec.ofInt (IntKind.i64).bits x &&& BitVec.ofInt (IntKind.i64).bits 15).toNat = n at h
 rw [wrap_id (by omega)]; omega
theorem putHead_same {m : MMsg} (h : m.sm) (hi : i64 m.id) : ∃ d, s_PutHead m = some d ∧ i_PutHead m = some d ∧ blk d 12 := by
 obtain ⟨-, ⟨ha, -⟩, ⟨hb, -⟩, ⟨hc, -⟩⟩ := h
 simp only [i64] at hi
 unfold s_PutHead i_PutHead
 simp only [l8Flag_eq, bit_eq, bnd1_mk]
 have f1 := flag_rng m.reply (k := 128) (by omega)
 have f2 := flag_rng m.auth (k := 4) (by omega)
 have f3 := flag_rng m.cut (k := 2) (by omega)
 have f4 := flag_rng m.want (k := 1) (by omega)
 have f5 := flag_rng m.can (k := 128) (by omega)
 have f6 := iand_15 m.code
 generalize (bif m.reply then (128 : Int) else 0) = v1 at f1
 generalize (bif m.auth then (4 : Int) else 0) = v2 at f2
 generalize (bif m.cut then (2 : Int) else 0) = v3 at f3
 generalize (bif m.want then (1 : Int) else 0) = v4 at f4
 generalize (bif m.can then (128 : Int) else 0) = v5 at f5
 generalize iand .i64 m.code 15 = v6 at f6
 obtain ⟨x, x1, x2, x3⟩ := put2_same (k := m.id) blk_nil (by omega) (by omega)
 have hx := blk_app x3 (blk_cons (wrap8_rng (v1 + v2 + v3 + v4)) (blk_w (v5 + v6)))
 have hxl := hx.1
 obtain ⟨y, y1, y2, y3⟩ := put2_same (k := 1) hx (by omega) (by omega)
 obtain ⟨z, z1, z2, z3⟩ := put2_same (k := (m.an.length : Int)) y3 (by omega) (by omega)
 obtain ⟨u, u1, u2, u3⟩ := put2_same (k := (m.au.length : Int)) z3 (by omega) (by omega)
 obtain ⟨v, g1, g2, g3⟩ := put2_same (k := (m.ad.length : Int)) u3 (by omega) (by omega)
 have hloop : i_PutHead_l0 m fuel0 y 0 = some v := by
  unfold fuel0
  rw [i_PutHead_l0, decide_eq_true (by omega), cond_true, show idx [m.an, m.au, m.ad] 0 = some m.an from rfl, bnd1_mk, z2, bnd1_mk, grd_i, show (0 : Int) + 1 = 1 from rfl,
   i_PutHead_l0, decide_eq_true (by omega), cond_true, show idx [m.an, m.au, m.ad] 1 = some m.au from rfl, bnd1_mk, u2, bnd1_mk, grd_i, show (1 : Int) + 1 = 2 from rfl,
   i_PutHead_l0, decide_eq_true (by omega), cond_true, show idx [m.an, m.au, m.ad] 2 = some m.ad from rfl, bnd1_mk, g2, bnd1_mk, grd_i, show (2 : Int) + 1 = 3 from rfl,
   i_PutHead_l0, decide_eq_false (by omega), cond_false]
 rw [x1, bnd1_mk, grd_i, grd_i, grd_i, grd_i, grd_pos (by omega), y1, bnd1_mk, z1, bnd1_mk, u1, bnd1_mk, g1, bnd1_mk, x2, bnd1_mk, grd_i, grd_i, grd_i, grd_i, grd_pos (by omega), y2, bnd1_mk, hloop]
 exact ⟨v, rfl, rfl, blk_le g3 (by omega)⟩
def MMsg.nm (m : MMsg) : Prop := i64 m.id ∧ i64 m.q.ty ∧ ∀ l, l ∈ [m.an, m.au, m.ad] → ∀ r : Rec, r ∈ l → i64 r.ty ∧ i64 r.ttl
theorem putMsg_same {m : MMsg} (h : m.sm) (hm : m.nm) : ∃ d, s_PutMsg m = some d ∧ i_PutMsg m = some d ∧ blk d 100000 := by
 obtain ⟨hi, hq, hr⟩ := hm
 obtain ⟨kq, ka, kb, kd⟩ := id h
 unfold s_PutMsg i_PutMsg
 rw [s_MsgOk_eq h, bnd1_mk, i_MsgOk_eq h, bnd1_mk]
 cases hp : msgP m with
 | false => exact ⟨[], rfl, rfl, blk_le blk_nil (by omega)⟩
 | true =>
  unfold msgP listP at hp
  simp only [Bool.and_eq_true, decide_eq_true_eq] at hp
  obtain ⟨-, -, -, ⟨-, la⟩, ⟨-, lb⟩, ⟨-, ld⟩⟩ := hp
  simp only [i64] at hq
  obtain ⟨x, x1, x2, x3⟩ := putHead_same h hi
  obtain ⟨y, y1, y2, y3⟩ := putName_same (s := m.q.name) x3 (by omega) kq
  obtain ⟨z, z1, z2, z3⟩ := put2_same (k := m.q.ty) y3 (by omega) (by omega)
  obtain ⟨u, u1, u2, u3⟩ := put2_same (k := 1) z3 (by omega) (by omega)
  obtain ⟨a, a1, a2, a3⟩ := putRecords_same (l := m.an) u3 (by omega) (fun r hr' => ⟨ka.2 r hr', hr m.an (.head _) r hr'⟩)
  obtain ⟨b, b1, b2, b3⟩ := putRecords_same (l := m.au) a3 (by omega) (fun r hr' => ⟨kb.2 r hr', hr m.au (.tail _ (.head _)) r hr'⟩)
  obtain ⟨d, d1, d2, d3⟩ := putRecords_same (l := m.ad) b3 (by omega) (fun r hr' => ⟨kd.2 r hr', hr m.ad (.tail _ (.tail _ (.head _))) r hr'⟩)
  have hloop : i_PutMsg_l1 m fuel0 u 0 = i_PutMsg_j0 d := by
   unfold fuel0
   rw [i_PutMsg_l1, decide_eq_true (by omega), cond_true, show idx [m.an, m.au, m.ad] 0 = some m.an from rfl, bnd1_mk, a2, bnd1_mk, grd_i, show (0 : Int) + 1 = 1 from rfl,
    i_PutMsg_l1, decide_eq_true (by omega), cond_true, show idx [m.an, m.au, m.ad] 1 = some m.au from rfl, bnd1_mk, b2, bnd1_mk, grd_i, show (1 : Int) + 1 = 2 from rfl,
    i_PutMsg_l1, decide_eq_true (by omega), cond_true, show idx [m.an, m.au, m.ad] 2 = some m.ad from rfl, bnd1_mk, d2, bnd1_mk, grd_i, show (2 : Int) + 1 = 3 from rfl,
    i_PutMsg_l1, decide_eq_false (by omega), cond_false]
  rw [Bool.not_true, cond_false, cond_false, x1, bnd1_mk, y1, bnd1_mk, z1, bnd1_mk, u1, bnd1_mk, a1, bnd1_mk, b1, bnd1_mk, d1, bnd1_mk, x2, bnd1_mk, y2, bnd1_mk, z2, bnd1_mk, u2, bnd1_mk, hloop]
  unfold i_PutMsg_j0
  cases decide (512 < (d.length : Int)) with
  | true => exact ⟨[], rfl, rfl, blk_le blk_nil (by omega)⟩
  | false => exact ⟨d, rfl, rfl, blk_le d3 (by omega)⟩
def four (b : List Int) (i : Int) : Int × Bool :=
 if i < 0 ∨ (b.length : Int) - 4 < i then (0, false) else
 if 2147483647 < 256 * (256 * (256 * b.getD i.toNat 0 + b.getD (i + 1).toNat 0) + b.getD (i + 2).toNat 0) + b.getD (i + 3).toNat 0 then (0, false) else
 (256 * (256 * (256 * b.getD i.toNat 0 + b.getD (i + 1).toNat 0) + b.getD (i + 2).toNat 0) + b.getD (i + 3).toNat 0, true)
theorem ishl_mul {a : Int} (k : Nat) (hk : k ≤ 24) (ha : 0 ≤ a) (ha2 : a < 256) : ishl .i64 a k = a * 2 ^ k := by
 have h2 : (2 : Int) ^ k ≤ 2 ^ 24 := by exact_mod_cast Nat.pow_le_pow_right (by omega) hk
 have h3 : (0 : Int) < 2 ^ k := by exact_mod_cast Nat.pow_pos (n := k) (show 0 < 2 by omega)
 have h4 : a * 2 ^ k ≤ 256 * 2 ^ 24 := Int.mul_le_mul (by omega) h2 (by omega) (by omega)
 have h5 : 0 ≤ a * 2 ^ k := Int.mul_nonneg ha (by omega)
 unfold ishl
 rw [show min k (IntKind.i64).bits = k from Nat.min_eq_left (by show k ≤ 64; omega), wrap_id (by omega)]
theorem s_Get4_eq {b : List Int} {i : Int} (hb : ∀ x, x ∈ b → 0 ≤ x ∧ x < 256) (hl : b.length ≤ 1048576) : s_Get4 b i = some (four b i) := by
 unfold s_Get4 s_Get4_j0 four
 by_cases c1 : i < 0
 ·rw [decide_eq_true c1, if_pos (.inl c1)]; rfl
 rw [decide_eq_false c1, cond_false, grd_i]
 by_cases c2 : (b.length : Int) - 4 < i
 ·rw [decide_eq_true c2, if_pos (.inr c2)]; rfl
 have h1 := getD_rng hb i.toNat
 have h2 := getD_rng hb (i + 1).toNat
 have h3 := getD_rng hb (i + 2).toNat
 have h4 := getD_rng hb (i + 3).toNat
 rw [decide_eq_false c2, cond_false, if_neg (by omega), idx_gd (by omega) (by omega), bnd1_mk, grd_i, idx_gd (by omega) (by omega), bnd1_mk, grd_i, idx_gd (by omega) (by omega), bnd1_mk, grd_i, idx_gd (by omega) (by omega), bnd1_mk]
 generalize b.getD i.toNat 0 = x at h1 ⊢
 generalize b.getD (i + 1).toNat 0 = y at h2 ⊢
 generalize b.getD (i + 2).toNat 0 = z at h3 ⊢
 generalize b.getD (i + 3).toNat 0 = w at h4 ⊢
 rw [wrap_id (by omega), wrap_id (by omega), wrap_id (by omega), wrap_id (by omega), ishl_mul 24 (by omega) (by omega) (by omega), ishl_mul 16 (by omega) (by omega) (by omega), ishl_mul 8 (by omega) (by omega) (by omega),
  ior_add (a := x * 2 ^ 24) (b := y * 2 ^ 16) 24 (by omega) (by omega) (by omega) (by omega) (by omega) (by omega), ior_add (a := x * 2 ^ 24 + y * 2 ^ 16) (b := z * 2 ^ 8) 16 (by omega) (by omega) (by omega) (by omega) (by omega) (by omega), ior_add (a := x * 2 ^ 24 + y * 2 ^ 16 + z * 2 ^ 8) (b := w) 8 (by omega) (by omega) (by omega) (by omega) (by omega) (by omega),
  show x * 2 ^ 24 + y * 2 ^ 16 + z * 2 ^ 8 + w = 256 * (256 * (256 * x + y) + z) + w by omega]
 by_cases c3 : 2147483647 < 256 * (256 * (256 * x + y) + z) + w
 ·rw [decide_eq_true c3, if_pos c3]; rfl
 ·rw [decide_eq_false c3, if_neg c3]; rfl
theorem take4 {b : List Int} {i : Nat} (h : i + 4 ≤ b.length) : (b.drop i).take 4 = [b.getD i 0, b.getD (i + 1) 0, b.getD (i + 2) 0, b.getD (i + 3) 0] := by
 rw [getD_at (by omega), getD_at (by omega), getD_at (by omega), getD_at (by omega), List.drop_eq_getElem_cons (by omega), List.take_succ_cons, List.drop_eq_getElem_cons (by omega), List.take_succ_cons, List.drop_eq_getElem_cons (by omega), List.take_succ_cons, List.drop_eq_getElem_cons (by omega), List.take_succ_cons, List.take_zero]
theorem i_Get4_eq {b : List Int} {i : Int} (hb : ∀ x, x ∈ b → 0 ≤ x ∧ x < 256) (hl : b.length ≤ 1048576) : i_Get4 b i = some (four b i) := by
 unfold i_Get4 i_getBytes i_getBytes_j0 four
 by_cases c1 : i < 0
 ·rw [decide_eq_true c1, if_pos (.inl c1)]; rfl
 rw [decide_eq_false c1, cond_false, grd_i]
 by_cases c2 : (b.length : Int) - 4 < i
 ·rw [decide_eq_true c2, if_pos (.inr c2)]; rfl
 have h1 := getD_rng hb i.toNat
 have h2 := getD_rng hb (i + 1).toNat
 have h3 := getD_rng hb (i + 2).toNat
 have h4 := getD_rng hb (i + 3).toNat
 have e1 : (i + 1).toNat = i.toNat + 1 := by omega
 have e3 : (i + 2).toNat = i.toNat + 2 := by omega
 have e4 : (i + 3).toNat = i.toNat + 3 := by omega
 have e2 : (i + 4).toNat - i.toNat = 4 := by omega
 rw [e1] at h2 ⊢
 rw [e3] at h3 ⊢
 rw [e4] at h4 ⊢
 rw [decide_eq_false c2, cond_false, if_neg (by omega), grd_i, grd_pos (by omega), e2, take4 (by omega)]
 generalize b.getD i.toNat 0 = x at h1 ⊢
 generalize b.getD (i.toNat + 1) 0 = y at h2 ⊢
 generalize b.getD (i.toNat + 2) 0 = z at h3 ⊢
 generalize b.getD (i.toNat + 3) 0 = w at h4 ⊢
 rw [i_getBytes_l2, wrap_id (by omega), grd_i, grd_i, i_getBytes_l2, wrap_id (by omega), grd_i, grd_i,
  i_getBytes_l2, wrap_id (by omega), grd_i, grd_i, i_getBytes_l2, wrap_id (by omega), grd_i, grd_i, i_getBytes_l2]
 unfold i_getBytes_j1
 rw [show 256 * (256 * (256 * (256 * 0 + x) + y) + z) + w = 256 * (256 * (256 * x + y) + z) + w by omega]
 by_cases c3 : 2147483647 < 256 * (256 * (256 * x + y) + z) + w
 ·rw [decide_eq_true c3, if_pos c3]; rfl
 ·rw [decide_eq_false c3, if_neg c3]; rfl
theorem bits_hd : ∀ x : Fin 256, decide (iand .u8 (x.val : Int) 120 = 0) = decide (iandNot .i64 (x.val : Int) 135 = 0) ∧ decide (iand .u8 (x.val : Int) 112 = 0) = decide (iandNot .i64 (x.val : Int) 143 = 0) ∧ decide (iand .u8 (x.val : Int) 128 = 0) = decide (iand .i64 (x.val : Int) 128 = 0) ∧ decide (iand .u8 (x.val : Int) 4 = 0) = decide (iand .i64 (x.val : Int) 4 = 0) ∧
  decide (iand .u8 (x.val : Int) 2 = 0) = decide (iand .i64 (x.val : Int) 2 = 0) ∧ decide (iand .u8 (x.val : Int) 1 = 0) = decide (iand .i64 (x.val : Int) 1 = 0) ∧ IntKind.i64.wrap (iand .u8 (x.val : Int) 15) = iand .i64 (x.val : Int) 15 := by decide +kernel
theorem bits_hd' {x : Int} (h : 0 ≤ x ∧ x < 256) : decide (iand .u8 x 120 = 0) = decide (iandNot .i64 x 135 = 0) ∧ decide (iand .u8 x 112 = 0) = decide (iandNot .i64 x 143 = 0) ∧ decide (iand .u8 x 128 = 0) = decide (iand .i64 x 128 = 0) ∧ decide (iand .u8 x 4 = 0) = decide (iand .i64 x 4 = 0) ∧
  decide (iand .u8 x 2 = 0) = decide (iand .i64 x 2 = 0) ∧ decide (iand .u8 x 1 = 0) = decide (iand .i64 x 1 = 0) ∧ IntKind.i64.wrap (iand .u8 x 15) = iand .i64 x 15 := by
 have := bits_hd ⟨x.toNat, by omega⟩
 rw [show ((⟨x.toNat, by omega⟩ : Fin 256).val : Int) = x from by show (x.toNat : Int) = x; omega] at this
 exact this
theorem getHead_same {b : List Int} (hb : ∀ x, x ∈ b → 0 ≤ x ∧ x < 256) (hl : b.length ≤ 1048576) : ∃ r, s_GetHead b = some r ∧ i_GetHead b = some r ∧ r.1.an = [] ∧ r.1.au = [] ∧ r.1.ad = [] := by
 unfold s_GetHead i_GetHead
 by_cases c : (b.length : Int) < 12
 ·rw [decide_eq_true c, cond_true, cond_true]; exact ⟨_, rfl, rfl, rfl, rfl, rfl⟩
 have h2 := getD_rng hb (2 : Int).toNat
 have h3 := getD_rng hb (3 : Int).toNat
 rw [decide_eq_false c, cond_false, cond_false, idx_gd (i := 2) (by omega) (by omega), bnd1_mk, bnd1_mk, idx_gd (i := 3) (by omega) (by omega), bnd1_mk, bnd1_mk]
 obtain ⟨x1, x2, x3, x4, x5, x6, x7⟩ := bits_hd' h2
 obtain ⟨y1, y2, y3, y4, y5, y6, y7⟩ := bits_hd' h3
 unfold s_GetHead_j0 i_GetHead_j0
 simp only [s_Get2_eq hb hl, i_Get2_eq hb hl]
 rw [idx_gd (i := 2) (by omega) (by omega), idx_gd (i := 3) (by omega) (by omega)]
 simp only [bnd1_mk]
 rw [wrap_id (x := b.getD (2 : Int).toNat 0) (by omega), wrap_id (x := b.getD (3 : Int).toNat 0) (by omega), x1, x3, x4, x5, x6, y2, y3, y7]
 generalize b.getD (2 : Int).toNat 0 = x at h2 ⊢
 generalize b.getD (3 : Int).toNat 0 = y at h3 ⊢
 generalize two b 0 = t0
 generalize two b 4 = t4
 generalize two b 6 = t6
 generalize two b 8 = t8
 generalize two b 10 = t10
 obtain ⟨t0, u0⟩ := t0
 obtain ⟨t4, u4⟩ := t4
 obtain ⟨t6, u6⟩ := t6
 obtain ⟨t8, u8⟩ := t8
 obtain ⟨t10, u10⟩ := t10
 simp only [bnd2_mk]
 cases decide (iandNot .i64 x 135 = 0) <;> cases decide (iandNot .i64 y 143 = 0) <;> cases decide (t4 = 1) <;> exact ⟨_, rfl, rfl, rfl, rfl, rfl⟩
def datP (r : Rec) : Prop := r.host.size ≤ 50 ∧ r.text.size ≤ 255
theorem getData_same {b : List Int} {i n t : Int} (hb : ∀ x, x ∈ b → 0 ≤ x ∧ x < 256) (hl : b.length ≤ 1048576) (hi : i64 i) : ∃ r, s_GetData b i n t = some r ∧ i_GetData b i n t = some r ∧ datP r.1 := by
 have z0 : datP (Rec.mk (⟨#[]⟩ : ByteArray) 0 0 0 (⟨#[]⟩ : ByteArray) (⟨#[]⟩ : ByteArray)) := ⟨by show (0 : Nat) ≤ 50; omega, by show (0 : Nat) ≤ 255; omega⟩
 have nil0 : (⟨#[]⟩ : ByteArray).size = 0 := rfl
 unfold s_GetData i_GetData s_GetData_j0 i_GetData_j0
 rw [s_l1In_eq, bnd1_mk, s_TypeOk_eq, bnd1_mk]
 by_cases c1 : n < 0
 ·rw [decide_eq_true c1, decide_eq_false (show ¬ 0 ≤ n by omega)]
  exact ⟨_, rfl, rfl, z0⟩
 rw [decide_eq_false c1, decide_eq_true (show 0 ≤ n by omega)]
 by_cases c2 : 255 < n
 ·rw [decide_eq_true c2, decide_eq_false (show ¬ n ≤ 255 by omega)]
  exact ⟨_, rfl, rfl, z0⟩
 rw [decide_eq_false c2, decide_eq_true (show n ≤ 255 by omega)]
 simp only [i64] at hi
 have hln : i64 ((b.length : Int) - n) := by simp only [i64]; omega
 simp only [Bool.and_true, Bool.not_true, cond_false, cond_true, bnd1_mk, grd_pos hln]
 unfold i_GetData_j1
 rw [i_TypeOk_eq, bnd1_mk]
 unfold s_GetData_j2 s_GetData_j1
 by_cases c3 : i < 0
 ·rw [decide_eq_true c3]
  cases typeP t <;> exact ⟨_, rfl, rfl, z0⟩
 rw [decide_eq_false c3, cond_false, cond_false, cond_false]
 by_cases c4 : (b.length : Int) - n < i
 ·rw [decide_eq_true c4]
  cases typeP t <;> exact ⟨_, rfl, rfl, z0⟩
 rw [decide_eq_false c4, cond_false, cond_false, cond_false]
 have hin : i64 (i + n) := by simp only [i64]; omega
 cases typeP t with
 | false => exact ⟨_, rfl, rfl, z0⟩
 | true =>
  rw [Bool.not_true, cond_false, cond_false, grd_i]
  by_cases c5 : t = 1
  ·rw [decide_eq_true c5, cond_true, cond_true, s_Get4_eq hb hl, i_Get4_eq hb hl]
   generalize four b i = v
   obtain ⟨v, ok⟩ := v
   rw [bnd2_mk, bnd2_mk, grd_i]
   unfold i_GetData_j2 i_GetData_j3 s_GetData_j3
   cases ok with
   | false => exact ⟨_, rfl, rfl, z0⟩
   | true =>
    rw [grd_i]
    by_cases c6 : n = 4
    ·rw [decide_eq_true c6, decide_eq_true (show i + 4 = i + n by omega)]; exact ⟨_, rfl, rfl, ⟨by show (0 : Nat) ≤ 50; omega, by show (0 : Nat) ≤ 255; omega⟩⟩
    ·rw [decide_eq_false c6, decide_eq_false (show ¬ i + 4 = i + n by omega)]; exact ⟨_, rfl, rfl, z0⟩
  rw [decide_eq_false c5, cond_false, cond_false]
  by_cases c6 : t = 16
  ·rw [decide_eq_true c6, cond_true, cond_true]
   by_cases c7 : n = 0
   ·rw [decide_eq_true c7, decide_eq_true (show n < 1 by omega)]; exact ⟨_, rfl, rfl, z0⟩
   have hx := getD_rng hb i.toNat
   rw [decide_eq_false c7, decide_eq_false (show ¬ n < 1 by omega), cond_false, cond_false, idx_gd (by omega) (by omega), bnd1_mk, bnd1_mk]
   generalize b.getD i.toNat 0 = x at hx ⊢
   rw [wrap_id (by omega), grd_i, grd_i, grd_i, grd_i]
   unfold s_GetData_j4 i_GetData_j2 i_GetData_j3
   by_cases c8 : x = n - 1
   ·rw [decide_eq_true c8, decide_eq_true (show i + (1 + x) = i + n by omega), Bool.not_true, cond_false, cond_true, show i + (1 + x) = i + n by omega, grd_pos (by first | omega | (simp only [i64]; omega)), grd_pos (by first | omega | (simp only [i64]; omega)), grd_pos (by first | omega | (simp only [i64]; omega)), grd_pos (by first | omega | (simp only [i64]; omega))]
    have hs : (strOfNums ((b.drop (i + 1).toNat).take ((i + n).toNat - (i + 1).toNat))).size ≤ 255 := by rw [strOfNums_size, List.length_take]; omega
    generalize strOfNums ((b.drop (i + 1).toNat).take ((i + n).toNat - (i + 1).toNat)) = s at hs ⊢
    rw [s_l5Text_eq (by omega), i_isText_eq (by omega), bnd1_mk, bnd1_mk, grd_i]
    cases textP s with
    | false => exact ⟨_, rfl, rfl, z0⟩
    | true => exact ⟨_, rfl, rfl, ⟨by show (0 : Nat) ≤ 50; omega, hs⟩⟩
   ·rw [decide_eq_false c8, decide_eq_false (show ¬ i + (1 + x) = i + n by omega)]; simp only [grd_pos hin]; exact ⟨_, rfl, rfl, z0⟩
  rw [decide_eq_false c6, cond_false, cond_false, s_GetName_eq hb hl (by simp only [i64]; omega), i_GetName_eq hb hl (by simp only [i64]; omega)]
  obtain ⟨h1, h2, h3⟩ := @nameAt_p b i hb hl
  generalize nameAt b i = x at h1 h2 h3
  obtain ⟨s, p, k⟩ := x
  simp only at h1 h2 h3
  rw [bnd3_mk, bnd3_mk]
  by_cases c7 : k = 0
  ·rw [decide_eq_true c7, Bool.not_true, cond_false, cond_false]
   by_cases c8 : t = 6
   ·rw [decide_eq_true c8, cond_true, cond_true, s_Get4_eq hb hl, i_Get4_eq hb hl]
    generalize four b p = v
    obtain ⟨v, ok⟩ := v
    rw [bnd2_mk, bnd2_mk, grd_i]
    unfold i_GetData_j2 i_GetData_j3 s_GetData_j5
    rw [grd_pos (show i64 (p + 4) by simp only [i64]; omega)]
    simp only [grd_pos hin]
    cases ok with
    | false => exact ⟨_, rfl, rfl, z0⟩
    | true => cases decide (p + 4 = i + n) with
     | false => exact ⟨_, rfl, rfl, z0⟩
     | true => exact ⟨_, rfl, rfl, ⟨h1, by show (0 : Nat) ≤ 255; omega⟩⟩
   ·rw [decide_eq_false c8, cond_false, cond_false]
    unfold i_GetData_j2 i_GetData_j3 s_GetData_j5
    rw [grd_i]
    cases decide (p = i + n) with
    | false => exact ⟨_, rfl, rfl, z0⟩
    | true => exact ⟨_, rfl, rfl, ⟨h1, by show (0 : Nat) ≤ 255; omega⟩⟩
  ·rw [decide_eq_false c7, Bool.not_false, cond_true, cond_true]; exact ⟨_, rfl, rfl, z0⟩
theorem two_rng {b : List Int} {i : Int} (hb : ∀ x, x ∈ b → 0 ≤ x ∧ x < 256) : 0 ≤ (two b i).1 ∧ (two b i).1 < 65536 := by
 have h1 := getD_rng hb i.toNat
 have h2 := getD_rng hb (i + 1).toNat
 unfold two
 split
 ·exact ⟨by show (0 : Int) ≤ 0; omega, by show (0 : Int) < 65536; omega⟩
 ·exact ⟨by show 0 ≤ 256 * b.getD i.toNat 0 + b.getD (i + 1).toNat 0; omega, by show 256 * b.getD i.toNat 0 + b.getD (i + 1).toNat 0 < 65536; omega⟩
theorem getRecord_same {b : List Int} {i : Int} (hb : ∀ x, x ∈ b → 0 ≤ x ∧ x < 256) (hl : b.length ≤ 1048576) (hi : i64 i) : ∃ r, s_GetRecord b i = some r ∧ i_GetRecord b i = some r ∧ i64 r.2.1 := by
 have z0 : i64 0 := by simp only [i64]; omega
 unfold s_GetRecord i_GetRecord
 rw [s_GetName_eq hb hl hi, i_GetName_eq hb hl hi]
 obtain ⟨h1, h2, h3⟩ := @nameAt_p b i hb hl
 generalize nameAt b i = x at h1 h2 h3
 obtain ⟨s, p, k⟩ := x
 simp only at h1 h2 h3
 rw [bnd3_mk, bnd3_mk]
 by_cases c : k = 0
 ·rw [decide_eq_true c, Bool.not_true, cond_false, cond_false, grd_i, grd_i]
  by_cases c2 : (b.length : Int) - 10 < p
  ·rw [decide_eq_true c2, decide_eq_true (show (b.length : Int) - p < 10 by omega), cond_true, cond_true]; exact ⟨_, rfl, rfl, z0⟩
  ·have r8 := @two_rng b (p + 8) hb
   rw [decide_eq_false c2, decide_eq_false (show ¬ (b.length : Int) - p < 10 by omega), cond_false, cond_false]
   simp only [s_Get2_eq hb hl, i_Get2_eq hb hl, s_Get4_eq hb hl, i_Get4_eq hb hl]
   generalize two b p = t
   generalize two b (p + 2) = u
   generalize four b (p + 4) = v
   generalize two b (p + 8) = w at r8
   obtain ⟨t1, t2⟩ := t
   obtain ⟨u1, u2⟩ := u
   obtain ⟨v1, v2⟩ := v
   obtain ⟨w1, w2⟩ := w
   obtain ⟨g, g1, g2, g3, g4⟩ := getData_same (n := w1) (t := t1) hb hl (show i64 (p + 10) by simp only [i64]; omega)
   simp only at r8
   simp only [bnd2_mk, g1, g2]
   obtain ⟨d, e⟩ := g
   simp only at g3 g4
   simp only [bnd2_mk]
   have hsm : Rec.sm ⟨s, d.ty, v1, d.n, d.host, d.text⟩ := ⟨by show s.size ≤ _; omega, by show d.host.size ≤ _; omega, by show d.text.size ≤ _; omega⟩
   rw [s_RecordOk_eq hsm, i_RecordOk_eq hsm]
   unfold s_GetRecord_j0 i_GetRecord_j0
   simp only [grd_pos (show i64 (p + 2) by simp only [i64]; omega), grd_pos (show i64 (p + 4) by simp only [i64]; omega), grd_pos (show i64 (p + 8) by simp only [i64]; omega), grd_pos (show i64 (p + 10) by simp only [i64]; omega), grd_pos (show i64 (p + 10 + w1) by simp only [i64]; omega), bnd1_mk]
   have y0 : i64 (p + 10 + w1) := by simp only [i64]; omega
   cases decide (e = 0) <;> cases v2 <;> cases decide (u1 = 1) <;> cases recP ⟨s, d.ty, v1, d.n, d.host, d.text⟩ <;> first | exact ⟨_, rfl, rfl, z0⟩ | exact ⟨_, rfl, rfl, y0⟩
 ·rw [decide_eq_false c, Bool.not_false, cond_true, cond_true]; exact ⟨_, rfl, rfl, z0⟩
theorem getRecords_lo {b : List Int} {n : Int} (hb : ∀ x, x ∈ b → 0 ≤ x ∧ x < 256) (hl : b.length ≤ 1048576) (hn : 0 ≤ n ∧ n ≤ 8) : ∀ (m fl : Nat) (i : Int) (l : List Rec) (k : Int), m < fl → 0 ≤ k → k + m = n → l.length = k.toNat → i64 i →
  ∃ r, s_GetRecords_l0 b n fl i l k = some r ∧ i_GetRecords_l1 b n fl i l k = some r ∧ i64 r.2.1 ∧ r.1.length ≤ 8
 | m, 0, i, l, k, h, _, _, _, _ => by omega
 | 0, fl + 1, i, l, k, h, h0, h1, h2, hi => by
  rw [s_GetRecords_l0, i_GetRecords_l1, decide_eq_false (by omega)]
  exact ⟨_, rfl, rfl, hi, by show l.length ≤ 8; omega⟩
 | m + 1, fl + 1, i, l, k, h, h0, h1, h2, hi => by
  rw [s_GetRecords_l0, i_GetRecords_l1, decide_eq_true (by omega), cond_true, cond_true]
  obtain ⟨⟨r, p, e⟩, g1, g2, g3⟩ := getRecord_same hb hl hi
  rw [g1, g2, bnd3_mk, bnd3_mk]
  by_cases c : e = 0
  ·rw [decide_eq_true c, Bool.not_true, cond_false, cond_false, grd_pos (by simp; omega), grd_i, grd_pos (by simp; omega), grd_i]
   exact getRecords_lo hb hl hn m fl p (l ++ [r]) (k + 1) (by omega) (by omega) (by omega) (by simp; omega) g3
  ·rw [decide_eq_false c]
   exact ⟨_, rfl, rfl, by show i64 0; simp only [i64]; omega, by show (0 : Nat) ≤ 8; omega⟩
theorem getRecords_same {b : List Int} {i n : Int} (hb : ∀ x, x ∈ b → 0 ≤ x ∧ x < 256) (hl : b.length ≤ 1048576) (hi : i64 i) : ∃ r, s_GetRecords b i n = some r ∧ i_GetRecords b i n = some r ∧ i64 r.2.1 ∧ r.1.length ≤ 8 := by
 have z0 : i64 0 := by simp only [i64]; omega
 unfold s_GetRecords i_GetRecords i_GetRecords_j0
 rw [s_l1In_eq, bnd1_mk]
 by_cases c1 : n < 0
 ·rw [decide_eq_true c1, decide_eq_false (show ¬ 0 ≤ n by omega)]
  exact ⟨_, rfl, rfl, z0, by show (0 : Nat) ≤ 8; omega⟩
 rw [decide_eq_false c1, decide_eq_true (show 0 ≤ n by omega)]
 by_cases c2 : 8 < n
 ·rw [decide_eq_true c2, decide_eq_false (show ¬ n ≤ 8 by omega)]
  exact ⟨_, rfl, rfl, z0, by show (0 : Nat) ≤ 8; omega⟩
 rw [decide_eq_false c2, decide_eq_true (show n ≤ 8 by omega)]
 exact getRecords_lo hb hl (by omega) n.toNat fuel0 i [] 0 (by unfold fuel0; omega) (by omega) (by omega) rfl hi
theorem getQuest_rng {b : List Int} {i : Int} {r : Quest × Int × Int} (hb : ∀ x, x ∈ b → 0 ≤ x ∧ x < 256) (hl : b.length ≤ 1048576) (hi : i64 i) (h : s_GetQuest b i = some r) : i64 r.2.1 := by
 unfold s_GetQuest at h
 rw [s_GetName_eq hb hl hi] at h
 obtain ⟨h1, h2, h3⟩ := @nameAt_p b i hb hl
 generalize nameAt b i = x at h1 h2 h3 h
 obtain ⟨s, p, k⟩ := x
 simp only at h1 h2 h3
 have z0 : i64 0 := by simp only [i64]; omega
 rw [bnd3_mk] at h
 by_cases c : k = 0
 ·rw [decide_eq_true c, Bool.not_true, cond_false, grd_i] at h
  by_cases c2 : (b.length : Int) - 4 < p
  ·rw [decide_eq_true c2, cond_true] at h; cases h; exact z0
  ·rw [decide_eq_false c2, cond_false, s_Get2_eq hb hl, bnd2_mk, grd_i, s_Get2_eq hb hl, bnd2_mk, s_QuestOk_eq (show Quest.sm ⟨s, _⟩ from by show s.size ≤ _; omega), bnd1_mk] at h
   unfold s_GetQuest_j0 at h
   rw [grd_i] at h
   have y0 : i64 (p + 4) := by simp only [i64]; omega
   generalize questP ⟨s, (two b p).1⟩ = q at h
   generalize decide ((two b (p + 2)).1 = 1) = q2 at h
   cases q <;> cases q2 <;> cases h <;> first | exact z0 | exact y0
 ·rw [decide_eq_false c, Bool.not_false, cond_true] at h; cases h; exact z0
def lim8 (m : MMsg) : Prop := m.an.length ≤ 8 ∧ m.au.length ≤ 8 ∧ m.ad.length ≤ 8
theorem getMsg_same {b : List Int} (hb : ∀ x, x ∈ b → 0 ≤ x ∧ x < 256) (hl : b.length ≤ 1048576) : ∃ r, s_GetMsg b = some r ∧ i_GetMsg b = some r ∧ lim8 r.1 := by
 have zz : lim8 (MMsg.mk 0 false false false false false 0 (Quest.mk (⟨#[]⟩ : ByteArray) 0) ([] : List Rec) ([] : List Rec) ([] : List Rec)) := ⟨Nat.zero_le _, Nat.zero_le _, Nat.zero_le _⟩
 unfold s_GetMsg i_GetMsg
 obtain ⟨⟨m, x2, x3, x4, ok⟩, h1, h2, h3, h4, h5⟩ := getHead_same hb hl
 simp only at h3 h4 h5
 rw [h1, h2, bnd5_mk, bnd5_mk]
 unfold s_GetMsg_j0 i_GetMsg_j0
 cases ok with
 | false => exact ⟨_, rfl, rfl, zz⟩
 | true =>
  rw [Bool.not_true, cond_false, cond_false]
  cases decide (512 < (b.length : Int)) with
  | true => exact ⟨_, rfl, rfl, zz⟩
  | false =>
   rw [cond_false, cond_false]
   obtain ⟨⟨q, p, k⟩, g1, g2⟩ := getQuest_same (i := 12) hb hl (by simp only [i64]; omega)
   have g3 := getQuest_rng hb hl (by simp only [i64]; omega) g1
   simp only at g3
   rw [g1, g2, bnd3_mk, bnd3_mk]
   unfold i_GetMsg_j1 i_GetMsg_j2 s_GetMsg_j1
   by_cases c1 : k = 0
   ·rw [decide_eq_true c1, Bool.not_true, cond_false, cond_true]
    rw [show idx [x2, x3, x4] 0 = some x2 from rfl, show idx [x2, x3, x4] 1 = some x3 from rfl, show idx [x2, x3, x4] 2 = some x4 from rfl, bnd1_mk]
    obtain ⟨⟨a1, p1, k1⟩, u1, u2, u3, u4⟩ := getRecords_same (n := x2) hb hl g3
    simp only at u3 u4
    rw [u1, u2, bnd3_mk, bnd3_mk]
    by_cases c2 : k1 = 0
    ·rw [decide_eq_true c2, Bool.not_true, cond_false, cond_true, bnd1_mk]
     obtain ⟨⟨a2, p2, k2⟩, v1, v2, v3, v4⟩ := getRecords_same (n := x3) hb hl u3
     simp only at v3 v4
     rw [v1, v2, bnd3_mk, bnd3_mk]
     by_cases c3 : k2 = 0
     ·rw [decide_eq_true c3, Bool.not_true, cond_false, cond_true, bnd1_mk]
      obtain ⟨⟨a3, p3, k3⟩, w1, w2, w3, w4⟩ := getRecords_same (n := x4) hb hl v3
      simp only at w3 w4
      rw [w1, w2, bnd3_mk]
      cases decide (k3 = 0) <;> cases decide (p3 = (b.length : Int)) <;> first | exact ⟨_, rfl, rfl, zz⟩ | exact ⟨_, rfl, rfl, ⟨u4, v4, w4⟩⟩
     ·rw [decide_eq_false c3]; exact ⟨_, rfl, rfl, zz⟩
    ·rw [decide_eq_false c2]; exact ⟨_, rfl, rfl, zz⟩
   ·rw [decide_eq_false c1, Bool.not_false, cond_true]
    simp only [cond_false, decide_eq_false c1, Bool.not_false, cond_true]
    exact ⟨_, rfl, rfl, zz⟩
def jn (l : List ByteArray) : ByteArray := joinB l ⟨#[46]⟩
def vl (l : List ByteArray) : Prop := ∀ x, x ∈ l → labelP x = true
theorem vl_nil : vl [] := fun x hx => by cases hx
theorem vl_app {a b : List ByteArray} (ha : vl a) (hb : vl b) : vl (a ++ b) := fun x hx => by
 rcases List.mem_append.1 hx with h | h
 ·exact ha x h
 ·exact hb x h
theorem vl_one {p : ByteArray} (h : labelP p = true) : vl [p] := fun x hx => by rw [List.mem_singleton] at hx; rw [hx]; exact h
theorem vl_l {a b : List ByteArray} (h : vl (a ++ b)) : vl a := fun x hx => h x (List.mem_append_left _ hx)
theorem vl_r {a b : List ByteArray} (h : vl (a ++ b)) : vl b := fun x hx => h x (List.mem_append_right _ hx)
theorem vl_head {x : ByteArray} {b : List ByteArray} (h : vl (x :: b)) : labelP x = true := h x (.head _)
theorem vl_tail {x : ByteArray} {b : List ByteArray} (h : vl (x :: b)) : vl b := fun y hy => h y (.tail _ hy)
theorem labelP_nodot {x : ByteArray} (h : labelP x = true) : ∀ b, b ∈ bts x → b ≠ 46 := fun b hb e => by
 unfold labelP at h
 simp only [Bool.and_eq_true] at h
 have := List.all_eq_true.1 h.1 b hb
 rw [e] at this
 exact absurd this (by decide)
theorem segs_end : ∀ (x cur : List UInt8), (∀ b, b ∈ x → b ≠ 46) → segs cur x = [cur ++ x]
 | [], cur, _ => by rw [segs, List.append_nil]
 | b :: x, cur, h => by
  rw [segs, if_neg (h b (.head _)), segs_end x _ fun c hc => h c (.tail _ hc)]
  simp
theorem segs_dot : ∀ (x cur r : List UInt8), (∀ b, b ∈ x → b ≠ 46) → segs cur (x ++ 46 :: r) = (cur ++ x) :: segs [] r
 | [], cur, r, _ => by rw [List.nil_append, segs, if_pos rfl, List.append_nil]
 | b :: x, cur, r, h => by
  rw [List.cons_append, segs, if_neg (h b (.head _)), segs_dot x _ r fun c hc => h c (.tail _ hc)]
  simp
theorem bts_app (a b : ByteArray) : bts (a ++ b) = bts a ++ bts b := ba_app a b
theorem jn_ne {x : ByteArray} {t : List ByteArray} (h : labelP x = true) : bts (jn (x :: t)) ≠ [] := fun e => by
 have h1 := joinB_mono t [x]
 have h2 := labelP_size h
 rw [List.singleton_append, joinB_one] at h1
 have h3 : (jn (x :: t)).size = 0 := by rw [← bts_len, e]; rfl
 unfold jn at h3
 omega
theorem labels_jn : ∀ {l : List ByteArray}, vl l → labels (jn l) = l
 | [], _ => by unfold jn; rw [joinB_nil]; rfl
 | [x], h => by
  have hx := vl_head h
  have h1 := @jn_ne x [] hx
  unfold labels
  rw [if_neg h1]
  unfold jn
  rw [joinB_one, segs_end (bts x) [] (labelP_nodot hx)]; rfl
 | x :: y :: t, h => by
  have hx := vl_head h
  have h1 := @jn_ne x (y :: t) hx
  have ih := labels_jn (vl_tail h)
  have h2 := @jn_ne y t (vl_head (vl_tail h))
  unfold labels at ih ⊢
  rw [if_neg h2] at ih
  rw [if_neg h1]
  unfold jn at ih ⊢
  rw [joinB_cons x _ (by simp), bts_app, bts_app]
  show (segs [] (bts x ++ 46 :: bts (joinB (y :: t) ⟨#[46]⟩))).map mkB = _
  rw [segs_dot _ _ _ (labelP_nodot hx), List.map_cons, ih]; rfl
theorem jn_inj {a b : List ByteArray} (ha : vl a) (hb : vl b) (h : jn a = jn b) : a = b := by rw [← labels_jn ha, h, labels_jn hb]
theorem jn_labels (s : ByteArray) : jn (labels s) = s := by
 by_cases c : s = ⟨#[]⟩
 ·subst c; show joinB [] _ = _; rw [joinB_nil]
 ·exact joinB_labels c
theorem nameP_jn {l : List ByteArray} (h : vl l) : nameP (jn l) = true ↔ (jn l).size ≤ 50 ∧ l.length ≤ 6 := by
 unfold nameP
 rw [labels_jn h]
 have : l.all labelP = true := List.all_eq_true.2 h
 rw [this]
 simp only [Bool.true_and, Bool.and_eq_true, decide_eq_true_eq]
 omega
theorem nameP_pre {a b : List ByteArray} (h : vl (a ++ b)) (hn : nameP (jn (a ++ b)) = true) : nameP (jn a) = true := by
 obtain ⟨h1, h2⟩ := (nameP_jn h).1 hn
 have h3 : (jn a).size ≤ (jn (a ++ b)).size := joinB_mono b a
 exact (nameP_jn (vl_l h)).2 ⟨by omega, by rw [List.length_append] at h2; omega⟩
theorem jn_nil : jn [] = ⟨#[]⟩ := joinB_nil _
theorem nameP_nil : nameP (jn []) = true := (nameP_jn vl_nil).2 ⟨by rw [jn_nil]; show (0 : Nat) ≤ 50; omega, Nat.zero_le _⟩
theorem jn_put {l : List ByteArray} (p : ByteArray) (h : vl l) : (if jn l = ⟨#[]⟩ then p else (jn l ++ ⟨#[46]⟩) ++ p) = jn (l ++ [p]) := (joinB_put fun x hx => (labelP_size (h x hx)).1).symm
theorem jn_grow {l : List ByteArray} {p : ByteArray} (h : vl l) (hp : labelP p = true) : (jn l).size + 1 ≤ (jn (l ++ [p])).size := by
 have h1 := @putS_size (jn l) p
 have h2 := labelP_size hp
 rw [jn_put p h] at h1
 omega
theorem getD_app {b c : List Int} {i : Nat} (h : i < b.length) : (b ++ c).getD i 0 = b.getD i 0 := by
 rw [List.getD_eq_getElem?_getD, List.getD_eq_getElem?_getD, List.getElem?_append_left h]
theorem getD_at0 {b c : List Int} {x : Int} : (b ++ x :: c).getD b.length 0 = x := by
 rw [List.getD_eq_getElem?_getD, List.getElem?_append_right (Nat.le_refl _)]; simp
theorem getLabel_up {b c : List Int} {i : Int} (hb : ∀ x, x ∈ b → 0 ≤ x ∧ x < 256) (h : (getLabel b i).2.2 = true) : getLabel (b ++ c) i = getLabel b i := by
 obtain ⟨-, -, h0, h1⟩ := getLabel_ok hb h
 have hr := getD_rng hb i.toNat
 have e1 : b[i.toNat]? = some (b.getD i.toNat 0) := by
  rw [List.getD_eq_getElem?_getD, List.getElem?_eq_getElem (by omega)]; rfl
 unfold getLabel at h ⊢
 rw [if_pos (by omega), e1] at h
 have e2 : (b ++ c)[i.toNat]? = some (b.getD i.toNat 0) := by rw [List.getElem?_append_left (by omega), e1]
 rw [if_pos (by rw [List.length_append]; omega), if_pos (by omega), e1, e2]
 generalize b.getD i.toNat 0 = n at h h1 hr
 simp only at h ⊢
 by_cases c2 : 12 < n ∨ (b.length : Int) - i ≤ n
 ·rw [if_pos c2] at h; cases h
 ·rw [if_neg c2, if_neg (by rw [List.length_append]; omega), List.drop_append_of_le_length (by omega), List.take_append_of_le_length (by rw [List.length_drop]; omega)]
theorem walk_up {b : List Int} (hb : ∀ x, x ∈ b → 0 ≤ x ∧ x < 256) : ∀ (fl : Nat) (at' : Int) (ls : List ByteArray) (nx bg j : Int), bg.toNat + (60 - (jn ls).size) < fl → vl ls → nameP (jn ls) = true → (walkF b fl at' (jn ls) nx bg j).2.2.1 = 0 →
  ∃ more X, vl more ∧ nameP (jn (ls ++ more)) = true ∧ (walkF b fl at' (jn ls) nx bg j).1 = jn (ls ++ more) ∧ (walkF b fl at' (jn ls) nx bg j).2.1 = (if nx < 0 then X else nx) ∧ at' < X ∧ X ≤ (b.length : Int) + 1 ∧
   ∀ (c : List Int) (us : List ByteArray) (fl' : Nat) (nx' j' : Int), vl us → nameP (jn (us ++ (ls ++ more))) = true → bg.toNat + (60 - (jn ls).size) < fl' →
    (walkF (b ++ c) fl' at' (jn (us ++ ls)) nx' bg j').1 = jn (us ++ (ls ++ more)) ∧ (walkF (b ++ c) fl' at' (jn (us ++ ls)) nx' bg j').2.1 = (if nx' < 0 then X else nx') ∧ (walkF (b ++ c) fl' at' (jn (us ++ ls)) nx' bg j').2.2.1 = 0
 | 0, at', ls, nx, bg, j, hf, _, _, _ => by omega
 | fl + 1, at', ls, nx, bg, j, hf, hv, hn, h => by
  have hz := nameP_size hn
  have z : ∀ k : Int, ((⟨#[]⟩ : ByteArray), (0 : Int), k, j).2.2.1 = k := fun k => rfl
  have hc : ∀ c : List Int, ((b ++ c).length : Int) = (b.length : Int) + (c.length : Int) := fun c => by rw [List.length_append]; omega
  rw [walkF] at h ⊢
  by_cases c1 : at' < 0 ∨ (b.length : Int) ≤ at'
  ·rw [if_pos c1, z] at h; exact absurd h (by decide)
  rw [if_neg c1] at h ⊢
  have hrn := getD_rng hb at'.toNat
  have hg := @getLabel_ok b at' hb
  have e1 : ∀ c, (b ++ c).getD at'.toNat 0 = b.getD at'.toNat 0 := fun c => getD_app (by omega)
  by_cases c3 : b.getD at'.toNat 0 = 0
  ·rw [if_pos c3] at h ⊢
   refine ⟨[], at' + 1, vl_nil, by rw [List.append_nil]; exact hn, by rw [List.append_nil], rfl, by omega, by omega, ?_⟩
   intro c us fl' nx' j' hus hu hf'
   obtain ⟨fl', rfl⟩ : ∃ k, fl' = k + 1 := ⟨fl' - 1, by omega⟩
   rw [List.append_nil, walkF, if_neg (by rw [hc]; omega), e1, if_pos c3]
   exact ⟨rfl, rfl, rfl⟩
  rw [if_neg c3] at h ⊢
  by_cases c5 : 192 ≤ b.getD at'.toNat 0
  ·rw [if_pos c5] at h ⊢
   by_cases c6 : (b.length : Int) ≤ at' + 1
   ·rw [if_pos c6, z] at h; exact absurd h (by decide)
   rw [if_neg c6] at h ⊢
   have e2 : ∀ c, (b ++ c).getD (at' + 1).toNat 0 = b.getD (at' + 1).toNat 0 := fun c => getD_app (by omega)
   have hy := getD_rng hb (at' + 1).toNat
   by_cases c7 : bg ≤ 256 * (b.getD at'.toNat 0 - 192) + b.getD (at' + 1).toNat 0
   ·rw [if_pos c7, z] at h; exact absurd h (by decide)
   rw [if_neg c7] at h ⊢
   obtain ⟨more, X, g1, g2, g3, g4, -, -, g5⟩ := walk_up hb fl _ ls _ _ _ (by omega) hv hn h
   refine ⟨more, at' + 2, g1, g2, g3, ?_, by omega, by omega, ?_⟩
   ·rw [g4]
    by_cases d : nx < 0
    ·rw [if_pos d, if_neg (by omega)]
    ·rw [if_neg d, if_neg d]
   intro c us fl' nx' j' hus hu hf'
   obtain ⟨fl', rfl⟩ : ∃ k, fl' = k + 1 := ⟨fl' - 1, by omega⟩
   rw [walkF, if_neg (by rw [hc]; omega), e1, e2, if_neg c3, if_pos c5, if_neg (by rw [hc]; omega), if_neg c7]
   obtain ⟨k1, k2, k3⟩ := g5 c us fl' (if nx' < 0 then at' + 2 else nx') (j' + 1) hus hu (by omega)
   refine ⟨k1, ?_, k3⟩
   rw [k2]
   by_cases d : nx' < 0
   ·rw [if_pos d, if_neg (by omega)]
   ·rw [if_neg d, if_neg d]
  rw [if_neg c5] at h ⊢
  by_cases c10 : 12 < b.getD at'.toNat 0
  ·rw [if_pos c10, z] at h; exact absurd h (by decide)
  rw [if_neg c10] at h ⊢
  by_cases c11 : (b.length : Int) - at' ≤ b.getD at'.toNat 0
  ·rw [if_pos c11, z] at h; exact absurd h (by decide)
  rw [if_neg c11] at h ⊢
  by_cases c12 : (getLabel b at').2.2 = false
  ·rw [if_pos c12, z] at h; exact absurd h (by decide)
  rw [if_neg c12] at h ⊢
  have c12' : (getLabel b at').2.2 = true := by simpa using c12
  obtain ⟨q1, q2, q3, q4⟩ := hg c12'
  have hup : ∀ c, getLabel (b ++ c) at' = getLabel b at' := fun c => getLabel_up hb c12'
  have hto : at' < (getLabel b at').2.1 := by rw [q2]; omega
  generalize hp : (getLabel b at').1 = p at h q1 hup ⊢
  generalize hto' : (getLabel b at').2.1 = to at h q2 hto hup ⊢
  rw [jn_put p hv] at h ⊢
  by_cases c13 : nameP (jn (ls ++ [p])) = true
  ·rw [if_pos c13] at h ⊢
   have hgr := jn_grow hv q1
   have hz2 := nameP_size c13
   obtain ⟨more, X, g1, g2, g3, g4, g6, g7, g5⟩ := walk_up hb fl _ (ls ++ [p]) _ _ _ (by omega) (vl_app hv (vl_one q1)) c13 h
   rw [List.append_assoc, List.singleton_append] at g2 g3
   refine ⟨p :: more, X, fun x hx => ?_, g2, g3, g4, by omega, g7, ?_⟩
   ·rcases List.mem_cons.1 hx with rfl | hx
    ·exact q1
    ·exact g1 x hx
   intro c us fl' nx' j' hus hu hf'
   obtain ⟨fl', rfl⟩ : ∃ k, fl' = k + 1 := ⟨fl' - 1, by omega⟩
   have hvv : vl ((us ++ (ls ++ [p])) ++ more) := vl_app (vl_app hus (vl_app hv (vl_one q1))) g1
   have hpre : nameP (jn (us ++ (ls ++ [p]))) = true := nameP_pre hvv (by rw [show (us ++ (ls ++ [p])) ++ more = us ++ (ls ++ p :: more) by simp]; exact hu)
   obtain ⟨k1, k2, k3⟩ := g5 c us fl' nx' j' hus (by rw [show us ++ ((ls ++ [p]) ++ more) = us ++ (ls ++ p :: more) by simp]; exact hu) (by omega)
   rw [show us ++ ((ls ++ [p]) ++ more) = us ++ (ls ++ p :: more) by simp] at k1
   rw [walkF, if_neg (by rw [hc]; omega), e1, if_neg c3, if_neg c5, if_neg c10, if_neg (by rw [hc]; omega), hup, if_neg c12, hp, hto', jn_put p (vl_app hus hv), List.append_assoc us ls [p], if_pos hpre]
   exact ⟨k1, k2, k3⟩
  ·rw [if_neg c13, z] at h; exact absurd h (by decide)
theorem nameAt_up {b : List Int} {i : Int} (hb : ∀ x, x ∈ b → 0 ≤ x ∧ x < 256) (hl : b.length ≤ 1048576) (h : (nameAt b i).2.2 = 0) : ∃ more X, vl more ∧ nameP (jn more) = true ∧ nameAt b i = (jn more, X, 0) ∧ 0 ≤ i ∧ i < (b.length : Int) ∧ i < X ∧
  ∀ (c : List Int), nameAt (b ++ c) i = (jn more, X, 0) ∧ ∀ (us : List ByteArray) (fl' : Nat) (nx' j' : Int), vl us → nameP (jn (us ++ more)) = true → i.toNat + 60 < fl' →
    (walkF (b ++ c) fl' i (jn us) nx' i j').1 = jn (us ++ more) ∧ (walkF (b ++ c) fl' i (jn us) nx' i j').2.1 = (if nx' < 0 then X else nx') ∧ (walkF (b ++ c) fl' i (jn us) nx' i j').2.2.1 = 0 := by
 have hr : 0 ≤ i ∧ i < (b.length : Int) := by
  unfold nameAt readF fuel0 at h
  simp only at h
  rw [walkF] at h
  by_cases c1 : i < 0 ∨ (b.length : Int) ≤ i
  ·rw [if_pos c1] at h; exact absurd h (by decide)
  ·omega
 unfold nameAt readF at h ⊢
 simp only at h
 rw [← jn_nil] at h ⊢
 have h0 : (jn []).size = 0 := by rw [jn_nil]; rfl
 obtain ⟨more, X, g1, g2, g3, g4, g6, -, g5⟩ := walk_up hb fuel0 i [] (-1) i 0 (by unfold fuel0; omega) vl_nil nameP_nil h
 rw [List.nil_append] at g2 g3
 rw [if_pos (by omega)] at g4
 refine ⟨more, X, g1, g2, by rw [g3, g4, h], hr.1, hr.2, g6, fun c => ⟨?_, fun us fl' nx' j' hu hn hf => ?_⟩⟩
 ·obtain ⟨k1, k2, k3⟩ := g5 c [] fuel0 (-1) 0 vl_nil g2 (by unfold fuel0; omega)
  simp only [List.nil_append] at k1 k2 k3
  rw [if_pos (by omega)] at k2
  rw [k1, k2, k3]
 ·have := g5 c us fl' nx' j' hu (by rw [List.nil_append]; exact hn) (by omega)
  rw [List.append_nil, List.nil_append] at this
  exact this
theorem s_PlaceOf_l0_p {b : List Int} {s : ByteArray} (hb : ∀ x, x ∈ b → 0 ≤ x ∧ x < 256) (hl : b.length ≤ 1048576) : ∀ (fl : Nat) (i v : Int), 0 ≤ i → s_PlaceOf_l0 b s fl i = some v → 0 ≤ v → v < (b.length : Int) ∧ (nameAt b v).1 = s ∧ (nameAt b v).2.2 = 0
 | 0, i, v, _, h, _ => by rw [s_PlaceOf_l0] at h; cases h
 | fl + 1, i, v, hi, h, hv => by
  rw [s_PlaceOf_l0] at h
  unfold s_PlaceOf_j1 at h
  by_cases c : i < (b.length : Int)
  ·rw [decide_eq_true c, cond_true] at h
   by_cases c2 : i ≤ 16383
   ·rw [decide_eq_true c2, cond_true, s_GetName_eq hb hl (by simp only [i64]; omega)] at h
    have hn : nameAt b i = ((nameAt b i).1, (nameAt b i).2.1, (nameAt b i).2.2) := rfl
    rw [hn, bnd3_mk] at h
    have hrec : s_PlaceOf_l0 b s fl (i + 1) = some v → v < (b.length : Int) ∧ (nameAt b v).1 = s ∧ (nameAt b v).2.2 = 0 := fun h => s_PlaceOf_l0_p hb hl fl (i + 1) v (by omega) h hv
    unfold s_PlaceOf_j2 at h
    rw [grd_i] at h
    by_cases d : (nameAt b i).2.2 = 0
    ·rw [decide_eq_true d, cond_true] at h
     by_cases d2 : (nameAt b i).1 = s
     ·rw [decide_eq_true d2, cond_true] at h
      cases h
      exact ⟨c, d2, d⟩
     ·rw [decide_eq_false d2] at h; exact hrec h
    ·rw [decide_eq_false d] at h; exact hrec h
   ·rw [decide_eq_false c2] at h; cases h; omega
  ·rw [decide_eq_false c] at h; cases h; omega
theorem placeP_at {b : List Int} {s : ByteArray} {n : Nat} (hb : blk b n) (hn : n ≤ 1000000) (h : 0 ≤ placeP b s) : placeP b s < (b.length : Int) ∧ (nameAt b (placeP b s)).1 = s ∧ (nameAt b (placeP b s)).2.2 = 0 := by
 have hl := hb.1
 obtain ⟨h1, -, -, -⟩ := placeP_eq (s := s) hb hn
 exact s_PlaceOf_l0_p hb.2 (by omega) fuel0 0 _ (by omega) h1 h
theorem ptrB_eq {p : Int} (h : 0 ≤ p ∧ p ≤ 16383) : ptrB p = [192 + p / 256, p % 256] := by
 have e1 : Int.tdiv p 256 = p / 256 := Int.tdiv_eq_ediv_of_nonneg h.1
 have e2 : Int.tmod p 256 = p % 256 := Int.tmod_eq_emod_of_nonneg h.1
 unfold ptrB
 rw [e1, e2, wrap_id (by omega), wrap8 (by omega), wrap8 (by omega)]
theorem strOfNums_bytes (s : ByteArray) : strOfNums (bytesOf s) = s := by
 apply bts_inj.1
 unfold strOfNums bytesOf bts
 simp only [List.map_map]
 have : ((fun n : Int => UInt8.ofNat n.toNat) ∘ fun b : UInt8 => (b.toNat : Int)) = id := by funext b; simp
 rw [this, List.map_id]
theorem fold_label {x : ByteArray} (h : labelP x = true) : fold x = x := by
 unfold fold
 have : (bytesOf x).map foldC = bytesOf x := by
  unfold bytesOf
  rw [List.map_map]
  apply List.map_congr_left
  intro b hb
  unfold labelP at h
  simp only [Bool.and_eq_true] at h
  have h1 := List.all_eq_true.1 h.1 b hb
  unfold chP at h1
  simp only [Bool.or_eq_true, Bool.and_eq_true, decide_eq_true_eq] at h1
  show foldC (b.toNat : Int) = _
  unfold foldC
  rw [if_neg (by omega)]
 rw [this, strOfNums_bytes]
theorem lab_length (x : ByteArray) : (lab x).length = x.size + 1 := by unfold lab; rw [List.length_cons, bytesOf_len]
theorem getLabel_at {out r : List Int} {x : ByteArray} (h : labelP x = true) : getLabel (out ++ (lab x ++ r)) (out.length : Int) = (x, ((out ++ lab x).length : Int), true) := by
 have hs := labelP_size h
 have hl := lab_length x
 unfold getLabel
 have e1 : (out ++ (lab x ++ r))[(out.length : Int).toNat]? = some (x.size : Int) := by
  rw [Int.toNat_natCast, List.getElem?_append_right (Nat.le_refl _)]; unfold lab; simp
 have e2 : ((out ++ (lab x ++ r)).drop ((out.length : Int) + 1).toNat).take ((x.size : Int)).toNat = bytesOf x := by
  have : ((out.length : Int) + 1).toNat = out.length + 1 := by omega
  rw [this, List.drop_append, List.drop_eq_nil_of_le (by omega), List.nil_append, show out.length + 1 - out.length = 1 by omega]
  unfold lab
  rw [List.cons_append, List.drop_succ_cons, List.drop_zero, List.take_append_of_le_length (by rw [bytesOf_len]; omega), List.take_of_length_le (by rw [bytesOf_len]; omega)]
 have hlen : ((out ++ (lab x ++ r)).length : Int) = out.length + (x.size + 1) + r.length := by simp only [List.length_append, hl]; omega
 rw [if_pos (by rw [hlen]; omega), e1]
 simp only
 rw [if_neg (by rw [hlen]; omega), e2, strOfNums_bytes, fold_label h, h, cond_true, List.length_append, hl]
 congr 2; omega
theorem walk_lab {out r : List Int} {x : ByteArray} {ls : List ByteArray} {fl : Nat} {nx bg j : Int} (hv : vl (ls ++ [x])) (hn : nameP (jn (ls ++ [x])) = true) :
  walkF (out ++ (lab x ++ r)) (fl + 1) (out.length : Int) (jn ls) nx bg j = walkF (out ++ (lab x ++ r)) fl ((out ++ lab x).length : Int) (jn (ls ++ [x])) nx bg j := by
 have hx := vl_head (vl_r hv)
 have hs := labelP_size hx
 have hlen : ((out ++ (lab x ++ r)).length : Int) = out.length + (x.size + 1) + r.length := by simp only [List.length_append, lab_length]; omega
 have e1 : (out ++ (lab x ++ r)).getD (out.length : Int).toNat 0 = (x.size : Int) := by rw [Int.toNat_natCast]; exact getD_at0
 rw [walkF, if_neg (by rw [hlen]; omega), e1, if_neg (by omega), if_neg (by omega), if_neg (by omega), if_neg (by rw [hlen]; omega), getLabel_at hx, if_neg (by simp)]
 simp only
 rw [jn_put x (vl_l hv), if_pos hn]
theorem walk_end {out r : List Int} {s : ByteArray} {fl : Nat} {nx bg j : Int} : walkF (out ++ 0 :: r) (fl + 1) (out.length : Int) s nx bg j = (s, if nx < 0 then (out.length : Int) + 1 else nx, 0, j) := by
 have e1 : (out ++ 0 :: r).getD (out.length : Int).toNat 0 = 0 := by rw [Int.toNat_natCast]; exact getD_at0
 rw [walkF, if_neg (by simp; omega), e1, if_pos rfl]
theorem plain_read (r : List Int) (bg j : Int) : ∀ (t pre : List ByteArray) (out : List Int) (fl : Nat), vl (pre ++ t) → nameP (jn (pre ++ t)) = true → t.length < fl →
  walkF (out ++ (t.flatMap lab ++ 0 :: r)) fl (out.length : Int) (jn pre) (-1) bg j = (jn (pre ++ t), ((out ++ t.flatMap lab).length : Int) + 1, 0, j)
 | t, pre, out, 0, _, _, h => by omega
 | [], pre, out, fl + 1, hv, hn, h => by
  rw [List.flatMap_nil, List.nil_append, walk_end, List.append_nil, if_pos (by omega), List.append_nil]
 | x :: t, pre, out, fl + 1, hv, hn, h => by
  have ex : pre ++ x :: t = (pre ++ [x]) ++ t := by simp
  rw [ex] at hv hn ⊢
  have ih := plain_read r bg j t (pre ++ [x]) (out ++ lab x) fl hv hn (by simp only [List.length_cons] at h; omega)
  rw [List.append_assoc out (lab x) (t.flatMap lab ++ 0 :: r)] at ih
  rw [List.flatMap_cons, List.append_assoc (lab x), walk_lab (vl_l hv) (nameP_pre hv hn), ih, List.append_assoc out (lab x)]
theorem nameOut_ext {b : List Int} : ∀ (t : List ByteArray) (out : List Int), ∃ r, nameOut b t out = out ++ r
 | [], out => ⟨[0], rfl⟩
 | x :: t, out => by
  rw [nameOut]
  by_cases c : 0 ≤ placeP b (joinB (x :: t) ⟨#[46]⟩)
  ·rw [if_pos c]; exact ⟨_, rfl⟩
  ·rw [if_neg c]
   obtain ⟨r, h⟩ := nameOut_ext t (out ++ lab x)
   exact ⟨lab x ++ r, by rw [h, List.append_assoc]⟩
theorem nameOut_read {b : List Int} {n : Nat} (hb : blk b n) (hn : n ≤ 1000000) (c : List Int) : ∀ (t pre : List ByteArray) (out q : List Int) (fl : Nat) (j : Int), out = b ++ q → vl (pre ++ t) → nameP (jn (pre ++ t)) = true → b.length + 70 < fl + pre.length →
  (walkF (nameOut b t out ++ c) fl (out.length : Int) (jn pre) (-1) (b.length : Int) j).1 = jn (pre ++ t) ∧ (walkF (nameOut b t out ++ c) fl (out.length : Int) (jn pre) (-1) (b.length : Int) j).2.1 = ((nameOut b t out).length : Int) ∧ (walkF (nameOut b t out ++ c) fl (out.length : Int) (jn pre) (-1) (b.length : Int) j).2.2.1 = 0
 | [], pre, out, q, fl, j, ho, hv, hnn, hf => by
  have h6 := ((nameP_jn hv).1 hnn).2
  rw [List.append_nil] at h6
  obtain ⟨fl, rfl⟩ : ∃ k, fl = k + 1 := ⟨fl - 1, by omega⟩
  rw [nameOut, List.append_assoc, List.singleton_append, walk_end, List.append_nil, if_pos (by omega)]
  exact ⟨rfl, by simp, rfl⟩
 | x :: t, pre, out, q, fl, j, ho, hv, hnn, hf => by
  have h6 := ((nameP_jn hv).1 hnn).2
  rw [List.length_append] at h6
  obtain ⟨fl, rfl⟩ : ∃ k, fl = k + 1 := ⟨fl - 1, by omega⟩
  rw [nameOut]
  by_cases d : 0 ≤ placeP b (joinB (x :: t) ⟨#[46]⟩)
  ·rw [if_pos d]
   obtain ⟨p1, p2, p3⟩ := placeP_at hb hn d
   obtain ⟨-, -, -, p4⟩ := placeP_eq (s := joinB (x :: t) ⟨#[46]⟩) hb hn
   generalize placeP b (joinB (x :: t) ⟨#[46]⟩) = p at d p1 p2 p3 p4
   have hl := hb.1
   obtain ⟨more, X, g1, g2, g3, g4, g5, -, g6⟩ := nameAt_up hb.2 (by omega) p3
   rw [g3] at p2
   have hm : more = x :: t := jn_inj g1 (vl_r hv) p2
   subst hm
   obtain ⟨-, g7⟩ := g6 (q ++ ([192 + p / 256, p % 256] ++ c))
   obtain ⟨k1, k2, k3⟩ := g7 pre fl ((out.length : Int) + 2) (j + 1) (vl_l hv) hnn (by omega)
   have eB : (out ++ ptrB p) ++ c = b ++ (q ++ ([192 + p / 256, p % 256] ++ c)) := by rw [ptrB_eq ⟨d, p4⟩, ho]; simp only [List.append_assoc]
   have e1 : ((out ++ ptrB p) ++ c).getD (out.length : Int).toNat 0 = 192 + p / 256 := by
    rw [Int.toNat_natCast, ptrB_eq ⟨d, p4⟩, List.append_assoc]; exact getD_at0
   have e2 : ((out ++ ptrB p) ++ c).getD ((out.length : Int) + 1).toNat 0 = p % 256 := by
    have := @getD_at0 (out ++ [192 + p / 256]) c (p % 256)
    rw [List.length_append] at this
    rw [show ((out.length : Int) + 1).toNat = out.length + 1 by omega, ptrB_eq ⟨d, p4⟩]
    rw [← this]; congr 1; simp
   have hlen : (((out ++ ptrB p) ++ c).length : Int) = out.length + 2 + c.length := by simp only [List.length_append, ptrB_eq ⟨d, p4⟩, List.length_cons, List.length_nil]; omega
   have hval : 256 * (192 + p / 256 - 192) + p % 256 = p := by omega
   rw [walkF, if_neg (by rw [hlen]; omega), e1, e2, if_neg (by omega), if_pos (by omega), if_neg (by rw [hlen]; omega), hval, if_neg (by omega), if_pos (by omega), eB]
   rw [if_neg (by omega)] at k2
   refine ⟨k1, ?_, k3⟩
   rw [k2, ptrB_eq ⟨d, p4⟩]; simp
  ·rw [if_neg d]
   have ex : pre ++ x :: t = (pre ++ [x]) ++ t := by simp
   rw [ex] at hv hnn ⊢
   have ih := nameOut_read hb hn c t (pre ++ [x]) (out ++ lab x) (q ++ lab x) fl j (by rw [ho, List.append_assoc]) hv hnn (by simp; omega)
   obtain ⟨r, hr⟩ := nameOut_ext (b := b) t (out ++ lab x)
   rw [hr, List.append_assoc, List.append_assoc] at ih ⊢
   rw [walk_lab (vl_l hv) (nameP_pre hv hnn)]
   exact ih
theorem putName_val {b : List Int} {s : ByteArray} {n : Nat} (hb : blk b n) (hn : n ≤ 400000) (hp : nameP s = true) : s_PutName b s = some (nameOut b (labels s) b) := by
 have hl := hb.1
 have h3 := nameP_size hp
 obtain ⟨h1, h2⟩ := nameP_labels hp
 have h5 := s_PutName_l1_eq hb (by omega) (labels s) [] b h1 (by omega)
 unfold s_PutName
 rw [List.nil_append, grd_pos (by omega), s_NameOk_eq (by omega), bnd1_mk, hp, Bool.not_true, cond_false, s_Above_eq (by omega), bnd1_mk, s_Labels_eq (by omega), bnd1_mk]
 exact h5
theorem putName_read {b F : List Int} {s : ByteArray} {n : Nat} (hb : blk b n) (hn : n ≤ 400000) (hp : nameP s = true) (h : s_PutName b s = some F) (c : List Int) : nameAt (F ++ c) (b.length : Int) = (s, (F.length : Int), 0) := by
 have hl := hb.1
 obtain ⟨h1, h2⟩ := nameP_labels hp
 rw [putName_val hb hn hp] at h
 injection h with h
 subst h
 obtain ⟨k1, k2, k3⟩ := nameOut_read hb (by omega) c (labels s) [] b [] fuel0 0 (by rw [List.append_nil]) h1 (by rw [List.nil_append, jn_labels]; exact hp) (by unfold fuel0; simp; omega)
 rw [jn_nil] at k1 k2 k3
 rw [List.nil_append, jn_labels] at k1
 unfold nameAt readF
 rw [k1, k2, k3]
theorem plainName_read {out r : List Int} {s : ByteArray} (hp : nameP s = true) : nameAt (out ++ ((labels s).flatMap lab ++ 0 :: r)) (out.length : Int) = (s, ((out ++ (labels s).flatMap lab).length : Int) + 1, 0) := by
 obtain ⟨h1, h2⟩ := nameP_labels hp
 have := plain_read r (out.length : Int) 0 (labels s) [] out fuel0 h1 (by rw [List.nil_append, jn_labels]; exact hp) (by unfold fuel0; omega)
 rw [List.nil_append, jn_nil, jn_labels] at this
 unfold nameAt readF
 rw [this]
theorem grd_neg' {α : Type} {p : Prop} [Decidable p] {x : Option α} (h : ¬ p) : grd p x = none := if_neg h
def decP (b : List Int) (m : MMsg) (e : Int) : Prop := ∃ h n1 n2 n3 q p l1 p1 l2 p2 l3, s_GetHead b = some (h, n1, n2, n3, true) ∧ s_GetQuest b 12 = some (q, p, 0) ∧ s_GetRecords b p n1 = some (l1, p1, 0) ∧ s_GetRecords b p1 n2 = some (l2, p2, 0) ∧ s_GetRecords b p2 n3 = some (l3, e, 0) ∧
 m = MMsg.mk h.id h.reply h.auth h.cut h.want h.can h.code q l1 l2 l3
theorem getHead_len {b : List Int} {h : MMsg} {n1 n2 n3 : Int} (k : s_GetHead b = some (h, n1, n2, n3, true)) : 12 ≤ b.length := by
 by_cases c : (b.length : Int) < 12
 ·unfold s_GetHead s_GetHead_j0 at k
  rw [decide_eq_true c] at k
  exact absurd k (by simp)
 ·omega
theorem getMsg_dec {b : List Int} {m : MMsg} (hb : ∀ x, x ∈ b → 0 ≤ x ∧ x < 256) (hl : b.length ≤ 1048576) (h : s_GetMsg b = some (m, true)) : decP b m (b.length : Int) := by
 unfold s_GetMsg s_GetMsg_j0 s_GetMsg_j1 at h
 obtain ⟨⟨hd, x2, x3, x4, ok⟩, h1, -⟩ := getHead_same hb hl
 rw [h1, bnd5_mk] at h
 cases ok with
 | false => exact absurd h (by simp)
 | true =>
  rw [Bool.not_true, cond_false] at h
  cases hd5 : decide (512 < (b.length : Int)) with
  | true => rw [hd5] at h; exact absurd h (by simp)
  | false =>
   rw [hd5, cond_false] at h
   obtain ⟨⟨q, p, k⟩, g1, -⟩ := getQuest_same (i := 12) hb hl (by simp only [i64]; omega)
   have g3 := getQuest_rng hb hl (by simp only [i64]; omega) g1
   simp only at g3
   rw [g1, bnd3_mk] at h
   by_cases c1 : k = 0
   ·rw [c1] at h g1
    rw [decide_eq_true (show (0 : Int) = 0 from rfl), Bool.not_true, cond_false] at h
    obtain ⟨⟨a1, p1, k1⟩, u1, -, u3, -⟩ := getRecords_same (n := x2) hb hl g3
    simp only at u3
    rw [u1, bnd3_mk] at h
    by_cases c2 : k1 = 0
    ·rw [c2] at h u1
     rw [decide_eq_true (show (0 : Int) = 0 from rfl), Bool.not_true, cond_false] at h
     obtain ⟨⟨a2, p2, k2⟩, v1, -, v3, -⟩ := getRecords_same (n := x3) hb hl u3
     simp only at v3
     rw [v1, bnd3_mk] at h
     by_cases c3 : k2 = 0
     ·rw [c3] at h v1
      rw [decide_eq_true (show (0 : Int) = 0 from rfl), Bool.not_true, cond_false] at h
      obtain ⟨⟨a3, p3, k3⟩, w1, -, w3, -⟩ := getRecords_same (n := x4) hb hl v3
      rw [w1, bnd3_mk] at h
      by_cases c4 : k3 = 0
      ·rw [c4] at h w1
       rw [decide_eq_true (show (0 : Int) = 0 from rfl), Bool.not_true, cond_false] at h
       by_cases c5 : p3 = (b.length : Int)
       ·rw [decide_eq_true c5, Bool.not_true, cond_false] at h
        injection h with h
        injection h with h _
        rw [← c5]
        exact ⟨hd, x2, x3, x4, q, p, a1, p1, a2, p2, a3, h1, g1, u1, v1, w1, h.symm⟩
       ·rw [decide_eq_false c5] at h; exact absurd h (by simp)
      ·rw [decide_eq_false c4] at h; exact absurd h (by simp)
     ·rw [decide_eq_false c3] at h; exact absurd h (by simp)
    ·rw [decide_eq_false c2] at h; exact absurd h (by simp)
   ·rw [decide_eq_false c1] at h; exact absurd h (by simp)
theorem dec_getMsg {b : List Int} {m : MMsg} (hl : b.length ≤ 512) (h : decP b m (b.length : Int)) : s_GetMsg b = some (m, true) := by
 obtain ⟨h, n1, n2, n3, q, p, l1, p1, l2, p2, l3, a1, a2, a3, a4, a5, a6⟩ := h
 unfold s_GetMsg s_GetMsg_j0 s_GetMsg_j1
 rw [a1, bnd5_mk, Bool.not_true, cond_false, decide_eq_false (by omega), cond_false, a2, bnd3_mk, decide_eq_true (show (0 : Int) = 0 from rfl), Bool.not_true, cond_false, a3, bnd3_mk, decide_eq_true (show (0 : Int) = 0 from rfl), Bool.not_true, cond_false, a4, bnd3_mk, decide_eq_true (show (0 : Int) = 0 from rfl), Bool.not_true, cond_false, a5, bnd3_mk, decide_eq_true (show (0 : Int) = 0 from rfl), Bool.not_true, cond_false, decide_eq_true rfl, a6]
 rfl
def w2 (k : Int) : List Int := [k / 256, k % 256]
def w4 (k : Int) : List Int := [k / 16777216, k / 65536 % 256, k / 256 % 256, k % 256]
theorem blk_w2 {k : Int} (h : 0 ≤ k ∧ k ≤ 65535) : blk (w2 k) 2 := blk_cons (by omega) (blk_cons (by omega) blk_nil)
theorem put2_val {b : List Int} {k : Int} (hb : b.length ≤ 900000) (h : 0 ≤ k ∧ k ≤ 65535) : s_Put2 b k = some (b ++ w2 k) := by
 unfold s_Put2
 rw [List.nil_append, grd_pos (by omega), s_l1In_eq, bnd1_mk, decide_eq_true h.1, decide_eq_true h.2, Bool.true_and, Bool.not_true, cond_false, ishr_nat h.1 (by omega), iand_255n h.1 (by omega), wrap8 (by omega), wrap8 (by omega), grd_pos (by simp; omega)]
 rfl
theorem put4_val {b : List Int} {k : Int} (hb : b.length ≤ 900000) (h : 0 ≤ k ∧ k ≤ 2147483647) : s_Put4 b k = some (b ++ w4 k) := by
 unfold s_Put4
 rw [List.nil_append, grd_pos (by omega), s_l1In_eq, bnd1_mk, decide_eq_true h.1, decide_eq_true h.2, Bool.true_and, Bool.not_true, cond_false, ishr_nat h.1 (by omega), ishr_nat h.1 (by omega), ishr_nat h.1 (by omega), iand_255n (by omega) (by omega), iand_255n (by omega) (by omega), iand_255n (by omega) (by omega), wrap8 (by omega), wrap8 (by omega), wrap8 (by omega), wrap8 (by omega), grd_pos (by simp; omega)]
 rfl
theorem at1 {o r : List Int} {a b : Int} : (o ++ a :: b :: r).getD (o.length + 1) 0 = b := by
 have := @getD_at0 (o ++ [a]) r b
 rw [List.length_append] at this
 rw [← this]; congr 1; simp
theorem at2 {o r : List Int} {a b c : Int} : (o ++ a :: b :: c :: r).getD (o.length + 2) 0 = c := by
 have := @at1 (o ++ [a]) r b c
 rw [List.append_assoc] at this
 rw [show o.length + 2 = (o ++ [a]).length + 1 by simp]; exact this
theorem at3 {o r : List Int} {a b c d : Int} : (o ++ a :: b :: c :: d :: r).getD (o.length + 3) 0 = d := by
 have := @at2 (o ++ [a]) r b c d
 rw [List.append_assoc] at this
 rw [show o.length + 3 = (o ++ [a]).length + 2 by simp]; exact this
theorem two_at {o r : List Int} {k : Int} (h : 0 ≤ k ∧ k ≤ 65535) : two (o ++ (w2 k ++ r)) (o.length : Int) = (k, true) := by
 have e0 : (o ++ (w2 k ++ r)).getD (o.length : Int).toNat 0 = k / 256 := by rw [Int.toNat_natCast]; exact getD_at0
 have e1 : (o ++ (w2 k ++ r)).getD ((o.length : Int) + 1).toNat 0 = k % 256 := by rw [show ((o.length : Int) + 1).toNat = o.length + 1 by omega]; exact at1
 have hl : ((o ++ (w2 k ++ r)).length : Int) = o.length + 2 + r.length := by simp only [List.length_append, w2, List.length_cons, List.length_nil]; omega
 unfold two
 rw [e0, e1, if_neg (by rw [hl]; omega), show 256 * (k / 256) + k % 256 = k by omega]
theorem four_at {o r : List Int} {k : Int} (h : 0 ≤ k ∧ k ≤ 2147483647) : four (o ++ (w4 k ++ r)) (o.length : Int) = (k, true) := by
 have e0 : (o ++ (w4 k ++ r)).getD (o.length : Int).toNat 0 = k / 16777216 := by rw [Int.toNat_natCast]; exact getD_at0
 have e1 : (o ++ (w4 k ++ r)).getD ((o.length : Int) + 1).toNat 0 = k / 65536 % 256 := by rw [show ((o.length : Int) + 1).toNat = o.length + 1 by omega]; exact at1
 have e2 : (o ++ (w4 k ++ r)).getD ((o.length : Int) + 2).toNat 0 = k / 256 % 256 := by rw [show ((o.length : Int) + 2).toNat = o.length + 2 by omega]; exact at2
 have e3 : (o ++ (w4 k ++ r)).getD ((o.length : Int) + 3).toNat 0 = k % 256 := by rw [show ((o.length : Int) + 3).toNat = o.length + 3 by omega]; exact at3
 have hl : ((o ++ (w4 k ++ r)).length : Int) = o.length + 4 + r.length := by simp only [List.length_append, w4, List.length_cons, List.length_nil]; omega
 have hk : 256 * (256 * (256 * (k / 16777216) + k / 65536 % 256) + k / 256 % 256) + k % 256 = k := by omega
 unfold four
 rw [e0, e1, e2, e3, if_neg (by rw [hl]; omega), hk, if_neg (by omega)]
theorem getData_in {b : List Int} {i n t : Int} (hl : b.length ≤ 1048576) (hn : 0 ≤ n ∧ n ≤ 255) (ht : typeP t = true) (hi : 0 ≤ i) (h : i + n ≤ (b.length : Int)) : s_GetData b i n t = s_GetData_j2 b i n t false := by
 unfold s_GetData s_GetData_j0
 rw [s_l1In_eq, bnd1_mk, s_TypeOk_eq, bnd1_mk, decide_eq_true hn.1, decide_eq_true hn.2, ht, show (!(true && true)) = false from rfl, cond_false, bnd1_mk, Bool.not_true, cond_false, decide_eq_false (show ¬ i < 0 by omega), cond_false, grd_i, decide_eq_false (by omega)]
theorem nilP_eq {s : ByteArray} (h : nilP s = true) : s = ⟨#[]⟩ := by unfold nilP at h; exact of_decide_eq_true h
theorem putData_read {r : Rec} (h : r.sm) (hp : recP r = true) {d : List Int} (hd : s_PutData r = some d) (out c : List Int) (hb : ∀ x, x ∈ out ++ (d ++ c) → 0 ≤ x ∧ x < 256) (hl : (out ++ (d ++ c)).length ≤ 800000) :
  s_GetData (out ++ (d ++ c)) (out.length : Int) (d.length : Int) r.ty = some (Rec.mk ⟨#[]⟩ r.ty 0 r.n r.host r.text, 0) ∧ blk d 200 := by
 obtain ⟨d', q1, -, q3⟩ := putData_same h
 rw [hd] at q1; cases q1
 refine ⟨?_, q3⟩
 have hdl := q3.1
 have hlen : ((out ++ (d ++ c)).length : Int) = out.length + d.length + c.length := by simp only [List.length_append]; omega
 have hB : (out ++ (d ++ c)).length ≤ 1048576 := by omega
 obtain ⟨h1, h2, h3⟩ := id h
 have hpp := hp
 unfold recP at hp
 simp only [Bool.and_eq_true] at hp
 obtain ⟨hn, ht, hp⟩ := hp
 unfold s_PutData at hd
 rw [s_RecordOk_eq h, bnd1_mk, hpp, Bool.not_true, cond_false] at hd
 by_cases c1 : r.ty = 1
 ·rw [decide_eq_true c1, cond_true] at hp hd
  simp only [Bool.and_eq_true, inP, decide_eq_true_eq] at hp
  obtain ⟨hr, e1, e2⟩ := hp
  rw [put4_val (by simp) hr, bnd1_mk, List.nil_append] at hd
  injection hd with hd
  subst hd
  have e4 : (w4 r.n).length = 4 := rfl
  rw [getData_in hB (by omega) (by rw [c1]; rfl) (by omega) (by omega)]
  unfold s_GetData_j2 s_GetData_j3
  rw [cond_false, grd_i, decide_eq_true c1, cond_true, s_Get4_eq hb hB, four_at hr, bnd2_mk, decide_eq_true (by omega), nilP_eq e1, nilP_eq e2]; rfl
 rw [decide_eq_false c1, cond_false] at hp hd
 by_cases c6 : r.ty = 6
 ·rw [decide_eq_false (show ¬ r.ty = 2 by omega), decide_eq_false (show ¬ r.ty = 5 by omega), Bool.or_false, cond_false, decide_eq_true c6, cond_true] at hp
  rw [decide_eq_true c6, cond_true] at hd
  simp only [Bool.and_eq_true, inP, decide_eq_true_eq] at hp
  obtain ⟨hr, e1, e2⟩ := hp
  obtain ⟨p, p1, p2, p3, p4⟩ := putPlain_same (s := r.host) blk_nil (by omega) h2
  have hpl := p3.1
  rw [p1, bnd1_mk, put4_val (by omega) (by omega), bnd1_mk] at hd
  injection hd with hd
  rw [p4 e1, List.nil_append] at hd
  subst hd
  have e4 : (w4 r.n).length = 4 := rfl
  have hdl2 : ((((labels r.host).flatMap lab ++ [0]) ++ w4 r.n).length : Int) = ((labels r.host).flatMap lab).length + 5 := by simp only [List.length_append, e4, List.length_cons, List.length_nil]; omega
  have eB : out ++ ((((labels r.host).flatMap lab ++ [0]) ++ w4 r.n) ++ c) = out ++ ((labels r.host).flatMap lab ++ 0 :: (w4 r.n ++ c)) := by simp only [List.append_assoc, List.singleton_append, List.cons_append, List.nil_append]
  have eB2 : out ++ ((((labels r.host).flatMap lab ++ [0]) ++ w4 r.n) ++ c) = (out ++ ((labels r.host).flatMap lab ++ [0])) ++ (w4 r.n ++ c) := by simp only [List.append_assoc]
  have epos : ((out ++ (labels r.host).flatMap lab).length : Int) + 1 = ((out ++ ((labels r.host).flatMap lab ++ [0])).length : Int) := by simp only [List.length_append, List.length_cons, List.length_nil]; omega
  have hnm : nameAt (out ++ ((((labels r.host).flatMap lab ++ [0]) ++ w4 r.n) ++ c)) (out.length : Int) = (r.host, ((out ++ ((labels r.host).flatMap lab ++ [0])).length : Int), 0) := by rw [eB, plainName_read e1, epos]
  have hf : four (out ++ ((((labels r.host).flatMap lab ++ [0]) ++ w4 r.n) ++ c)) ((out ++ ((labels r.host).flatMap lab ++ [0])).length : Int) = (r.n, true) := by rw [eB2]; exact four_at (by omega)
  have hq : ((out ++ ((labels r.host).flatMap lab ++ [0])).length : Int) = out.length + ((labels r.host).flatMap lab).length + 1 := by simp only [List.length_append, List.length_cons, List.length_nil]; omega
  rw [getData_in hB (by omega) (by rw [c6]; rfl) (by omega) (by omega)]
  unfold s_GetData_j2 s_GetData_j5
  rw [cond_false, grd_i, decide_eq_false c1, cond_false, decide_eq_false (show ¬ r.ty = 16 by omega), cond_false, s_GetName_eq hb hB (by simp only [i64]; omega), hnm, bnd3_mk, decide_eq_true (show (0 : Int) = 0 from rfl), Bool.not_true, cond_false, decide_eq_true c6, cond_true,
   s_Get4_eq hb hB, hf, bnd2_mk, Bool.not_true, cond_false, grd_i, decide_eq_true (by omega), Bool.not_true, cond_false, nilP_eq e2]
 rw [decide_eq_false c6, cond_false] at hd
 by_cases c16 : r.ty = 16
 ·rw [decide_eq_false (show ¬ r.ty = 2 by omega), decide_eq_false (show ¬ r.ty = 5 by omega), Bool.or_false, cond_false, decide_eq_false c6, cond_false] at hp
  rw [decide_eq_true c16, cond_true] at hd
  simp only [Bool.and_eq_true, decide_eq_true_eq] at hp
  obtain ⟨-, en, e1, e2⟩ := hp
  have htx := e2
  unfold textP at htx
  simp only [Bool.and_eq_true, decide_eq_true_eq] at htx
  have hsz : r.text.size ≤ 12 := by omega
  rw [wrap8 (by omega), grd_pos (by rw [List.length_append, bytesOf_len]; simp; omega)] at hd
  injection hd with hd
  subst hd
  have hdl2 : ((([(r.text.size : Int)] ++ bytesOf r.text)).length : Int) = r.text.size + 1 := by rw [List.length_append, bytesOf_len]; simp; omega
  have e0 : (out ++ (([(r.text.size : Int)] ++ bytesOf r.text) ++ c)).getD (out.length : Int).toNat 0 = (r.text.size : Int) := by rw [Int.toNat_natCast]; exact getD_at0
  have et : ((out ++ (([(r.text.size : Int)] ++ bytesOf r.text) ++ c)).drop ((out.length : Int) + 1).toNat).take (((out.length : Int) + (([(r.text.size : Int)] ++ bytesOf r.text).length : Int)).toNat - ((out.length : Int) + 1).toNat) = bytesOf r.text := by
   rw [hdl2, show ((out.length : Int) + ((r.text.size : Int) + 1)).toNat - ((out.length : Int) + 1).toNat = (bytesOf r.text).length by rw [bytesOf_len]; omega, show ((out.length : Int) + 1).toNat = (out ++ [(r.text.size : Int)]).length by simp]
   rw [show out ++ (([(r.text.size : Int)] ++ bytesOf r.text) ++ c) = (out ++ [(r.text.size : Int)]) ++ (bytesOf r.text ++ c) by simp only [List.append_assoc], List.drop_left, List.take_left]
  rw [getData_in hB (by omega) (by rw [c16]; rfl) (by omega) (by omega)]
  unfold s_GetData_j2 s_GetData_j4
  rw [cond_false, grd_i, decide_eq_false c1, cond_false, decide_eq_true c16, cond_true, decide_eq_false (show ¬ ((([(r.text.size : Int)] ++ bytesOf r.text)).length : Int) < 1 by omega), cond_false, idx_gd (by omega) (by omega), bnd1_mk, e0, wrap_id (by omega), grd_i, decide_eq_true (by omega), Bool.not_true, cond_false,
   et, strOfNums_bytes, grd_i, grd_pos (by omega), s_l5Text_eq (by omega), bnd1_mk, e2, Bool.not_true, cond_false, en, nilP_eq e1]
 ·rw [decide_eq_false c16, cond_false] at hd
  have c25 : (decide (r.ty = 2) || decide (r.ty = 5)) = true := by
   cases hc : (decide (r.ty = 2) || decide (r.ty = 5)) with
   | true => rfl
   | false => rw [hc, cond_false, decide_eq_false c6, cond_false, decide_eq_false c16] at hp; exact absurd hp (by simp)
  rw [c25, cond_true] at hp
  simp only [Bool.and_eq_true, decide_eq_true_eq] at hp
  obtain ⟨en, e1, e2⟩ := hp
  obtain ⟨p, p1, p2, p3, p4⟩ := putPlain_same (s := r.host) blk_nil (by omega) h2
  have hpl := p3.1
  rw [p1, bnd1_mk] at hd
  injection hd with hd
  rw [p4 e1, List.nil_append] at hd
  subst hd
  have hdl2 : (((labels r.host).flatMap lab ++ [0]).length : Int) = ((labels r.host).flatMap lab).length + 1 := by simp only [List.length_append, List.length_cons, List.length_nil]; omega
  have eB : out ++ (((labels r.host).flatMap lab ++ [0]) ++ c) = out ++ ((labels r.host).flatMap lab ++ 0 :: c) := by simp only [List.append_assoc, List.singleton_append]
  have hnm : nameAt (out ++ (((labels r.host).flatMap lab ++ [0]) ++ c)) (out.length : Int) = (r.host, ((out ++ (labels r.host).flatMap lab).length : Int) + 1, 0) := by rw [eB, plainName_read e1]
  have hty : typeP r.ty = true := by
   unfold typeP
   simp only [Bool.or_eq_true, decide_eq_true_eq] at c25 ⊢
   omega
  have hq : ((out ++ (labels r.host).flatMap lab).length : Int) = out.length + ((labels r.host).flatMap lab).length := by rw [List.length_append]; omega
  rw [getData_in hB (by omega) hty (by omega) (by omega)]
  unfold s_GetData_j2 s_GetData_j5
  rw [cond_false, grd_i, decide_eq_false c1, cond_false, decide_eq_false c16, cond_false, s_GetName_eq hb hB (by simp only [i64]; omega), hnm, bnd3_mk, decide_eq_true (show (0 : Int) = 0 from rfl), Bool.not_true, cond_false, decide_eq_false c6, cond_false, decide_eq_true (by omega), Bool.not_true, cond_false, en, nilP_eq e2]
theorem recP_p {r : Rec} (hp : recP r = true) : nameP r.name = true ∧ (0 ≤ r.ttl ∧ r.ttl ≤ 100000) ∧ (0 ≤ r.ty ∧ r.ty ≤ 16) := by
 unfold recP at hp
 simp only [Bool.and_eq_true, inP, decide_eq_true_eq] at hp
 obtain ⟨h1, h2, h3⟩ := hp
 refine ⟨h1, h2, ?_⟩
 by_cases c1 : r.ty = 1
 ·omega
 rw [decide_eq_false c1, cond_false] at h3
 by_cases c2 : r.ty = 2
 ·omega
 by_cases c5 : r.ty = 5
 ·omega
 rw [decide_eq_false c2, decide_eq_false c5, Bool.or_false, cond_false] at h3
 by_cases c6 : r.ty = 6
 ·omega
 rw [decide_eq_false c6, cond_false] at h3
 simp only [Bool.and_eq_true, decide_eq_true_eq] at h3
 omega
theorem putRecord_read {b F : List Int} {r : Rec} {n : Nat} (hb : blk b n) (hn : n ≤ 300000) (h : r.sm) (hp : recP r = true) (hF : s_PutRecord b r = some F) (c : List Int) (hB : ∀ x, x ∈ F ++ c → 0 ≤ x ∧ x < 256) (hl : (F ++ c).length ≤ 800000) :
  s_GetRecord (F ++ c) (b.length : Int) = some (r, (F.length : Int), 0) ∧ blk F (n + 300) ∧ ∃ q, F = b ++ q := by
 obtain ⟨hname, httl, hty⟩ := recP_p hp
 have hbl := hb.1
 obtain ⟨F', q1, -, q3⟩ := putRecord_same hb hn h ⟨by simp only [i64]; omega, by simp only [i64]; omega⟩
 rw [hF] at q1; cases q1
 unfold s_PutRecord at hF
 obtain ⟨x, x1, -, x3⟩ := putName_same (s := r.name) hb (by omega) h.1
 obtain ⟨d, d1, -, d3⟩ := putData_same h
 have hxl := x3.1
 have hdl := d3.1
 have e2 : ∀ k, (w2 k).length = 2 := fun k => rfl
 have e4 : ∀ k, (w4 k).length = 4 := fun k => rfl
 have L1 : (x ++ w2 r.ty).length = x.length + 2 := by rw [List.length_append, e2]
 have L2 : ((x ++ w2 r.ty) ++ w2 1).length = x.length + 4 := by rw [List.length_append, L1, e2]
 have L3 : (((x ++ w2 r.ty) ++ w2 1) ++ w4 r.ttl).length = x.length + 8 := by rw [List.length_append, L2, e4]
 have L4 : ((((x ++ w2 r.ty) ++ w2 1) ++ w4 r.ttl) ++ w2 (d.length : Int)).length = x.length + 10 := by rw [List.length_append, L3, e2]
 have L5 : (((((x ++ w2 r.ty) ++ w2 1) ++ w4 r.ttl) ++ w2 (d.length : Int)) ++ d).length = x.length + 10 + d.length := by rw [List.length_append, L4]
 rw [s_RecordOk_eq h, bnd1_mk, hp, Bool.not_true, cond_false, x1, bnd1_mk, put2_val (by omega) (by omega), bnd1_mk, put2_val (by omega) (by omega), bnd1_mk, put4_val (by omega) (by omega), bnd1_mk, d1, bnd1_mk, put2_val (by omega) (by omega), bnd1_mk, grd_pos (by rw [L5]; omega)] at hF
 injection hF with hF
 subst hF
 refine ⟨?_, q3, ?_⟩
 rotate_left
 ·have hx := x1
  rw [putName_val hb (by omega) hname] at hx
  injection hx with hx
  obtain ⟨q, hq⟩ := nameOut_ext (b := b) (labels r.name) b
  rw [hx] at hq
  exact ⟨q ++ (w2 r.ty ++ (w2 1 ++ (w4 r.ttl ++ (w2 (d.length : Int) ++ d)))), by rw [hq]; simp only [List.append_assoc]⟩
 generalize hBB : (((((x ++ w2 r.ty) ++ w2 1) ++ w4 r.ttl) ++ w2 (d.length : Int)) ++ d) ++ c = B at hB hl ⊢
 have B1 : B = x ++ (w2 r.ty ++ (w2 1 ++ (w4 r.ttl ++ (w2 (d.length : Int) ++ (d ++ c))))) := by rw [← hBB]; simp only [List.append_assoc]
 have B2 : B = (x ++ w2 r.ty) ++ (w2 1 ++ (w4 r.ttl ++ (w2 (d.length : Int) ++ (d ++ c)))) := by rw [← hBB]; simp only [List.append_assoc]
 have B3 : B = ((x ++ w2 r.ty) ++ w2 1) ++ (w4 r.ttl ++ (w2 (d.length : Int) ++ (d ++ c))) := by rw [← hBB]; simp only [List.append_assoc]
 have B4 : B = (((x ++ w2 r.ty) ++ w2 1) ++ w4 r.ttl) ++ (w2 (d.length : Int) ++ (d ++ c)) := by rw [← hBB]; simp only [List.append_assoc]
 have B5 : B = ((((x ++ w2 r.ty) ++ w2 1) ++ w4 r.ttl) ++ w2 (d.length : Int)) ++ (d ++ c) := by rw [← hBB]; simp only [List.append_assoc]
 have hlen : (B.length : Int) = x.length + 10 + d.length + c.length := by rw [← hBB, List.length_append, L5]; omega
 have g0 : nameAt B (b.length : Int) = (r.name, (x.length : Int), 0) := by rw [B1]; exact putName_read hb (by omega) hname x1 _
 have g1 : two B (x.length : Int) = (r.ty, true) := by rw [B1]; exact two_at (by omega)
 have g2 : two B ((x.length : Int) + 2) = (1, true) := by rw [B2, show (x.length : Int) + 2 = ((x ++ w2 r.ty).length : Int) by rw [L1]; omega]; exact two_at (by omega)
 have g3 : four B ((x.length : Int) + 4) = (r.ttl, true) := by rw [B3, show (x.length : Int) + 4 = (((x ++ w2 r.ty) ++ w2 1).length : Int) by rw [L2]; omega]; exact four_at (by omega)
 have g4 : two B ((x.length : Int) + 8) = ((d.length : Int), true) := by rw [B4, show (x.length : Int) + 8 = ((((x ++ w2 r.ty) ++ w2 1) ++ w4 r.ttl).length : Int) by rw [L3]; omega]; exact two_at (by omega)
 have g5 : s_GetData B ((x.length : Int) + 10) (d.length : Int) r.ty = some (Rec.mk ⟨#[]⟩ r.ty 0 r.n r.host r.text, 0) := by
  have := (putData_read h hp d1 ((((x ++ w2 r.ty) ++ w2 1) ++ w4 r.ttl) ++ w2 (d.length : Int)) c (by rw [← B5]; exact hB) (by rw [← B5]; exact hl)).1
  rw [← B5, L4] at this
  rw [show (x.length : Int) + 10 = ((x.length + 10 : Nat) : Int) by omega]; exact this
 have hBl : B.length ≤ 1048576 := by omega
 unfold s_GetRecord s_GetRecord_j0
 rw [s_GetName_eq hB hBl (by simp only [i64]; omega), g0, bnd3_mk, decide_eq_true (show (0 : Int) = 0 from rfl), Bool.not_true, cond_false, grd_i, decide_eq_false (by omega), cond_false]
 simp only [s_Get2_eq hB hBl, s_Get4_eq hB hBl]
 rw [g1, bnd2_mk, grd_i, g2, bnd2_mk, grd_i, g3, bnd2_mk, grd_i, g4, bnd2_mk, grd_i, g5, bnd2_mk, decide_eq_true (show (0 : Int) = 0 from rfl), Bool.not_true, cond_false, cond_false, decide_eq_true (show (1 : Int) = 1 from rfl), Bool.not_true, cond_false]
 rw [show Rec.mk r.name r.ty r.ttl r.n r.host r.text = r from rfl, s_RecordOk_eq h, bnd1_mk, hp, Bool.not_true, cond_false, grd_i, grd_i]
 rw [L5]
 congr 3
theorem putRecords_lo (c : List Int) {T : Int} (hT : T ≤ 8) : ∀ (l : List Rec) (b F : List Int) (n i : Nat) (k : Int) (fl : Nat) (acc : List Rec), blk b n → n + 300 * l.length ≤ 300000 → (∀ r, r ∈ l → r.sm ∧ recP r = true) → s_PutRecords_l0 l b i = some F → (∀ x, x ∈ F ++ c → 0 ≤ x ∧ x < 256) → (F ++ c).length ≤ 800000 →
  l.length < fl → 0 ≤ k → k + l.length = T → acc.length = k.toNat → s_GetRecords_l0 (F ++ c) T fl (b.length : Int) acc k = some (acc ++ l, (F.length : Int), 0) ∧ blk F (n + 300 * l.length) ∧ ∃ q, F = b ++ q
 | [], b, F, n, i, k, fl, acc, hb, hn, hr, hF, hB, hl, hfl, hk, hk8, ha => by
  obtain ⟨fl, rfl⟩ : ∃ q, fl = q + 1 := ⟨fl - 1, by omega⟩
  rw [s_PutRecords_l0] at hF
  injection hF with hF
  subst hF
  rw [s_GetRecords_l0, decide_eq_false (by simp at hk8; omega), cond_false, List.append_nil]
  exact ⟨rfl, hb, [], by rw [List.append_nil]⟩
 | r :: l, b, F, n, i, k, fl, acc, hb, hn, hr, hF, hB, hl, hfl, hk, hk8, ha => by
  simp only [List.length_cons] at hn hfl hk8 ⊢
  obtain ⟨fl, rfl⟩ : ∃ q, fl = q + 1 := ⟨fl - 1, by omega⟩
  obtain ⟨h1, h2⟩ := hr r (.head _)
  obtain ⟨hname, httl, hty⟩ := recP_p h2
  obtain ⟨d, d1, -, d3⟩ := putRecord_same hb (by omega) h1 ⟨by simp only [i64]; omega, by simp only [i64]; omega⟩
  rw [s_PutRecords_l0, d1, bnd1_mk] at hF
  obtain ⟨k1, k2, q, k3⟩ := putRecords_lo c hT l d F (n + 300) (i + 1) (k + 1) fl (acc ++ [r]) d3 (by omega) (fun x hx => hr x (.tail _ hx)) hF hB hl (by omega) (by omega) (by omega) (by rw [List.length_append, List.length_singleton]; omega)
  have eF : F ++ c = d ++ (q ++ c) := by rw [k3, List.append_assoc]
  obtain ⟨g1, -, q2, k4⟩ := putRecord_read hb (by omega) h1 h2 d1 (q ++ c) (by rw [← eF]; exact hB) (by rw [← eF]; exact hl)
  have hpre : ∃ q', F = b ++ q' := ⟨q2 ++ q, by rw [k3, k4, List.append_assoc]⟩
  refine ⟨?_, blk_le k2 (by omega), hpre⟩
  rw [← eF] at g1
  rw [s_GetRecords_l0, decide_eq_true (by omega), cond_true, g1, bnd3_mk, decide_eq_true (show (0 : Int) = 0 from rfl), Bool.not_true, cond_false, grd_pos (by rw [List.length_append, List.length_singleton]; omega), grd_i, k1, List.append_assoc, List.singleton_append]
theorem putRecords_read {b F : List Int} {l : List Rec} {n : Nat} (hb : blk b n) (hn : n + 300 * l.length ≤ 300000) (h8 : l.length ≤ 8) (h : ∀ r, r ∈ l → r.sm ∧ recP r = true) (hF : s_PutRecords b l = some F) (c : List Int) (hB : ∀ x, x ∈ F ++ c → 0 ≤ x ∧ x < 256) (hl : (F ++ c).length ≤ 800000) :
  s_GetRecords (F ++ c) (b.length : Int) (l.length : Int) = some (l, (F.length : Int), 0) ∧ blk F (n + 300 * l.length) ∧ ∃ q, F = b ++ q := by
 have hbl := hb.1
 unfold s_PutRecords at hF
 rw [List.nil_append, grd_pos (by omega)] at hF
 unfold s_GetRecords
 rw [s_l1In_eq, bnd1_mk, decide_eq_true (by omega), decide_eq_true (by omega), show (!(true && true)) = false from rfl, cond_false]
 exact putRecords_lo c (by omega) l b F n 0 0 fuel0 [] hb hn h hF hB hl (by unfold fuel0; omega) (by omega) (by omega) rfl
theorem flags_a : ∀ (a b c d : Bool), 0 ≤ (bif a then (128 : Int) else 0) + (bif b then (4 : Int) else 0) + (bif c then (2 : Int) else 0) + (bif d then (1 : Int) else 0) ∧ (bif a then (128 : Int) else 0) + (bif b then (4 : Int) else 0) + (bif c then (2 : Int) else 0) + (bif d then (1 : Int) else 0) < 256 ∧
  iand .u8 ((bif a then (128 : Int) else 0) + (bif b then (4 : Int) else 0) + (bif c then (2 : Int) else 0) + (bif d then (1 : Int) else 0)) 120 = 0 ∧ (!decide (iand .u8 ((bif a then (128 : Int) else 0) + (bif b then (4 : Int) else 0) + (bif c then (2 : Int) else 0) + (bif d then (1 : Int) else 0)) 128 = 0)) = a ∧ (!decide (iand .u8 ((bif a then (128 : Int) else 0) + (bif b then (4 : Int) else 0) + (bif c then (2 : Int) else 0) + (bif d then (1 : Int) else 0)) 4 = 0)) = b ∧
  (!decide (iand .u8 ((bif a then (128 : Int) else 0) + (bif b then (4 : Int) else 0) + (bif c then (2 : Int) else 0) + (bif d then (1 : Int) else 0)) 2 = 0)) = c ∧ (!decide (iand .u8 ((bif a then (128 : Int) else 0) + (bif b then (4 : Int) else 0) + (bif c then (2 : Int) else 0) + (bif d then (1 : Int) else 0)) 1 = 0)) = d := by decide +kernel
theorem flags_b : ∀ (a : Bool) (k : Fin 16), iand .i64 (k.val : Int) 15 = k.val ∧ iand .u8 ((bif a then (128 : Int) else 0) + (k.val : Int)) 112 = 0 ∧ (!decide (iand .u8 ((bif a then (128 : Int) else 0) + (k.val : Int)) 128 = 0)) = a ∧ IntKind.i64.wrap (iand .u8 ((bif a then (128 : Int) else 0) + (k.val : Int)) 15) = k.val := by decide +kernel
theorem flags_b' (a : Bool) {k : Int} (h : 0 ≤ k ∧ k ≤ 15) : iand .i64 k 15 = k ∧ iand .u8 ((bif a then (128 : Int) else 0) + k) 112 = 0 ∧ (!decide (iand .u8 ((bif a then (128 : Int) else 0) + k) 128 = 0)) = a ∧ IntKind.i64.wrap (iand .u8 ((bif a then (128 : Int) else 0) + k) 15) = k := by
 have := flags_b a ⟨k.toNat, by omega⟩
 rw [show ((⟨k.toNat, by omega⟩ : Fin 16).val : Int) = k from by show (k.toNat : Int) = k; omega] at this
 exact this
theorem putHead_read {m : MMsg} (h : m.sm) (hid : 0 ≤ m.id ∧ m.id ≤ 65535) (hco : 0 ≤ m.code ∧ m.code ≤ 15) (ha : m.an.length ≤ 8) (hu : m.au.length ≤ 8) (hd : m.ad.length ≤ 8) {H : List Int} (hH : s_PutHead m = some H) (c : List Int) (hB : ∀ x, x ∈ H ++ c → 0 ≤ x ∧ x < 256) (hl : (H ++ c).length ≤ 800000) :
  s_GetHead (H ++ c) = some (MMsg.mk m.id m.reply m.auth m.cut m.want m.can m.code (Quest.mk (⟨#[]⟩ : ByteArray) 0) [] [] [], (m.an.length : Int), (m.au.length : Int), (m.ad.length : Int), true) ∧ H.length = 12 ∧ blk H 12 := by
 obtain ⟨H', q1, -, q3⟩ := putHead_same h (by simp only [i64]; omega)
 rw [hH] at q1; cases q1
 obtain ⟨f1, f2, f3, f4, f5, f6, f7⟩ := flags_a m.reply m.auth m.cut m.want
 obtain ⟨k1, k2, k3, k4⟩ := flags_b' m.can hco
 have g1 := flag_rng m.reply (k := 128) (by omega)
 have g2 := flag_rng m.auth (k := 4) (by omega)
 have g3 := flag_rng m.cut (k := 2) (by omega)
 have g4 := flag_rng m.want (k := 1) (by omega)
 have g5 := flag_rng m.can (k := 128) (by omega)
 unfold s_PutHead at hH
 simp only [l8Flag_eq, bnd1_mk] at hH
 rw [k1] at hH
 generalize (bif m.reply then (128 : Int) else 0) = v1 at *
 generalize (bif m.auth then (4 : Int) else 0) = v2 at *
 generalize (bif m.cut then (2 : Int) else 0) = v3 at *
 generalize (bif m.want then (1 : Int) else 0) = v4 at *
 generalize (bif m.can then (128 : Int) else 0) = v5 at *
 have e2 : ∀ k, (w2 k).length = 2 := fun k => rfl
 rw [put2_val (by simp) hid, bnd1_mk, List.nil_append, grd_i, grd_i, grd_i, grd_i, grd_pos (by simp [e2]), wrap8 (by omega), wrap8 (by omega), put2_val (by simp [e2]) (by omega), bnd1_mk, put2_val (by simp [e2]) (by omega), bnd1_mk, put2_val (by simp [e2]) (by omega), bnd1_mk, put2_val (by simp [e2]) (by omega), bnd1_mk] at hH
 injection hH with hH
 subst hH
 refine ⟨?_, rfl, q3⟩
 generalize hBB : (((((w2 m.id ++ [v1 + v2 + v3 + v4, v5 + m.code]) ++ w2 1) ++ w2 (m.an.length : Int)) ++ w2 (m.au.length : Int)) ++ w2 (m.ad.length : Int)) ++ c = B at hB hl ⊢
 have hBl : B.length ≤ 1048576 := by omega
 have hlen : 12 ≤ B.length := by rw [← hBB]; simp [e2]; omega
 have t0 : two B 0 = (m.id, true) := by
  have := @two_at [] ([v1 + v2 + v3 + v4, v5 + m.code] ++ (w2 1 ++ (w2 (m.an.length : Int) ++ (w2 (m.au.length : Int) ++ (w2 (m.ad.length : Int) ++ c))))) m.id hid
  rw [← hBB]; simp only [List.append_assoc]; exact this
 have t4 : two B 4 = (1, true) := by
  have := @two_at (w2 m.id ++ [v1 + v2 + v3 + v4, v5 + m.code]) (w2 (m.an.length : Int) ++ (w2 (m.au.length : Int) ++ (w2 (m.ad.length : Int) ++ c))) 1 (by omega)
  rw [← hBB]; simp only [List.append_assoc] at this ⊢; exact this
 have t6 : two B 6 = ((m.an.length : Int), true) := by
  have := @two_at ((w2 m.id ++ [v1 + v2 + v3 + v4, v5 + m.code]) ++ w2 1) (w2 (m.au.length : Int) ++ (w2 (m.ad.length : Int) ++ c)) (m.an.length : Int) (by omega)
  rw [← hBB]; simp only [List.append_assoc] at this ⊢; exact this
 have t8 : two B 8 = ((m.au.length : Int), true) := by
  have := @two_at (((w2 m.id ++ [v1 + v2 + v3 + v4, v5 + m.code]) ++ w2 1) ++ w2 (m.an.length : Int)) (w2 (m.ad.length : Int) ++ c) (m.au.length : Int) (by omega)
  rw [← hBB]; simp only [List.append_assoc] at this ⊢; exact this
 have t10 : two B 10 = ((m.ad.length : Int), true) := by
  have := @two_at ((((w2 m.id ++ [v1 + v2 + v3 + v4, v5 + m.code]) ++ w2 1) ++ w2 (m.an.length : Int)) ++ w2 (m.au.length : Int)) c (m.ad.length : Int) (by omega)
  rw [← hBB]; simp only [List.append_assoc] at this ⊢; exact this
 have b2 : idx B 2 = some (v1 + v2 + v3 + v4) := by rw [← hBB]; rfl
 have b3 : idx B 3 = some (v5 + m.code) := by rw [← hBB]; rfl
 unfold s_GetHead s_GetHead_j0
 simp only [s_Get2_eq hB hBl]
 rw [decide_eq_false (by omega), cond_false, b2, bnd1_mk, f3, decide_eq_true rfl, Bool.not_true, cond_false, b3, bnd1_mk, k2, decide_eq_true rfl, Bool.not_true, cond_false, t0, bnd2_mk, t4, bnd2_mk, t6, bnd2_mk, t8, bnd2_mk, t10, bnd2_mk, decide_eq_true rfl, Bool.not_true, cond_false, bnd1_mk, bnd1_mk, f4, f5, f6, f7, k3, k4]
theorem msgP_p {m : MMsg} (h : msgP m = true) : (0 ≤ m.id ∧ m.id ≤ 65535) ∧ (0 ≤ m.code ∧ m.code ≤ 15) ∧ (nameP m.q.name = true ∧ typeP m.q.ty = true) ∧ (m.an.length ≤ 8 ∧ ∀ r, r ∈ m.an → recP r = true) ∧ (m.au.length ≤ 8 ∧ ∀ r, r ∈ m.au → recP r = true) ∧ (m.ad.length ≤ 8 ∧ ∀ r, r ∈ m.ad → recP r = true) := by
 unfold msgP listP questP inP at h
 simp only [Bool.and_eq_true, decide_eq_true_eq, List.all_eq_true] at h
 obtain ⟨h1, h2, h3, ⟨h4, h5⟩, ⟨h6, h7⟩, h8, h9⟩ := h
 exact ⟨h1, h2, h3, ⟨by omega, h4⟩, ⟨by omega, h6⟩, by omega, h8⟩
theorem p_msgP {m : MMsg} (h1 : 0 ≤ m.id ∧ m.id ≤ 65535) (h2 : 0 ≤ m.code ∧ m.code ≤ 15) (h3 : questP m.q = true) (h4 : m.an.length ≤ 8 ∧ ∀ r, r ∈ m.an → recP r = true) (h5 : m.au.length ≤ 8 ∧ ∀ r, r ∈ m.au → recP r = true) (h6 : m.ad.length ≤ 8 ∧ ∀ r, r ∈ m.ad → recP r = true) : msgP m = true := by
 unfold msgP listP inP
 simp only [Bool.and_eq_true, decide_eq_true_eq, List.all_eq_true]
 exact ⟨h1, h2, h3, ⟨h4.2, by omega⟩, ⟨h5.2, by omega⟩, h6.2, by omega⟩
theorem typeP_p {k : Int} (h : typeP k = true) : 0 ≤ k ∧ k ≤ 16 := by
 unfold typeP at h
 simp only [Bool.or_eq_true, decide_eq_true_eq] at h
 omega
theorem msgP_nm {m : MMsg} (h : msgP m = true) : m.nm := by
 obtain ⟨h1, h2, ⟨h3, h4⟩, h5, h6, h7⟩ := msgP_p h
 have ht := typeP_p h4
 have key : ∀ r, recP r = true → i64 r.ty ∧ i64 r.ttl := fun r hr => by
  obtain ⟨-, k1, k2⟩ := recP_p hr
  exact ⟨by simp only [i64]; omega, by simp only [i64]; omega⟩
 refine ⟨by simp only [i64]; omega, by simp only [i64]; omega, fun l hl r hr => ?_⟩
 simp only [List.mem_cons, List.not_mem_nil, or_false] at hl
 rcases hl with rfl | rfl | rfl
 ·exact key r (h5.2 r hr)
 ·exact key r (h6.2 r hr)
 ·exact key r (h7.2 r hr)
theorem putMsg_same2 {m : MMsg} (h : m.sm) : ∃ d, s_PutMsg m = some d ∧ i_PutMsg m = some d ∧ blk d 100000 := by
 cases hp : msgP m with
 | true => exact putMsg_same h (msgP_nm hp)
 | false =>
  unfold s_PutMsg i_PutMsg
  rw [s_MsgOk_eq h, bnd1_mk, i_MsgOk_eq h, bnd1_mk, hp]
  exact ⟨[], rfl, rfl, blk_le blk_nil (by omega)⟩
theorem putMsg_dec {m : MMsg} (h : m.sm) {B : List Int} (hB : s_PutMsg m = some B) : B = [] ∨ (msgP m = true ∧ B.length ≤ 512 ∧ decP B m (B.length : Int) ∧
  s_GetHead B = some (MMsg.mk m.id m.reply m.auth m.cut m.want m.can m.code (Quest.mk (⟨#[]⟩ : ByteArray) 0) [] [] [], (m.an.length : Int), (m.au.length : Int), (m.ad.length : Int), true)) := by
 unfold s_PutMsg at hB
 rw [s_MsgOk_eq h, bnd1_mk] at hB
 cases hp : msgP m with
 | false => rw [hp] at hB; injection hB with hB; exact .inl hB.symm
 | true =>
  rw [hp, Bool.not_true, cond_false] at hB
  obtain ⟨h1, h2, ⟨h3, h4⟩, h5, h6, h7⟩ := msgP_p hp
  have ht := typeP_p h4
  obtain ⟨hn1, hn2, hn3⟩ := msgP_nm hp
  obtain ⟨kq, ka, kb, kd⟩ := id h
  obtain ⟨x, x1, -, x3⟩ := putHead_same h hn1
  obtain ⟨y, y1, -, y3⟩ := putName_same (s := m.q.name) x3 (by omega) kq
  have yl := y3.1
  have e2 : ∀ k, (w2 k).length = 2 := fun k => rfl
  have L1 : (y ++ w2 m.q.ty).length = y.length + 2 := by rw [List.length_append, e2]
  have L2 : ((y ++ w2 m.q.ty) ++ w2 1).length = y.length + 4 := by rw [List.length_append, L1, e2]
  have u3 : blk ((y ++ w2 m.q.ty) ++ w2 1) (12 + 80 + 2 + 2) := blk_app (blk_app y3 (blk_w2 (by omega))) (blk_w2 (by omega))
  have rr : ∀ l : List Rec, (l.length ≤ 8 ∧ ∀ r, r ∈ l → recP r = true) → smL l → ∀ r, r ∈ l → r.sm ∧ recP r = true := fun l h1 h2 r hr => ⟨h2.2 r hr, h1.2 r hr⟩
  have rn : ∀ l : List Rec, (l.length ≤ 8 ∧ ∀ r, r ∈ l → recP r = true) → smL l → ∀ r, r ∈ l → r.sm ∧ i64 r.ty ∧ i64 r.ttl := fun l h1 h2 r hr => ⟨h2.2 r hr, by
   obtain ⟨-, k1, k2⟩ := recP_p (h1.2 r hr)
   exact ⟨by simp only [i64]; omega, by simp only [i64]; omega⟩⟩
  obtain ⟨a, a1, -, a3⟩ := putRecords_same (l := m.an) u3 (by omega) (rn _ h5 ka)
  obtain ⟨b, b1, -, b3⟩ := putRecords_same (l := m.au) a3 (by omega) (rn _ h6 kb)
  obtain ⟨d, d1, -, d3⟩ := putRecords_same (l := m.ad) b3 (by omega) (rn _ h7 kd)
  have dl := d3.1
  rw [x1, bnd1_mk, y1, bnd1_mk, put2_val (by omega) (by omega), bnd1_mk, put2_val (by omega) (by omega), bnd1_mk, a1, bnd1_mk, b1, bnd1_mk, d1, bnd1_mk] at hB
  by_cases c : 512 < (d.length : Int)
  ·rw [decide_eq_true c] at hB; injection hB with hB; exact .inl hB.symm
  ·rw [decide_eq_false c] at hB
   injection hB with hB
   subst hB
   have hd0 : ∀ z, z ∈ d ++ ([] : List Int) → 0 ≤ z ∧ z < 256 := by rw [List.append_nil]; exact d3.2
   obtain ⟨r1, r2, q3, r3⟩ := putRecords_read b3 (by omega) h7.1 (rr _ h7 kd) d1 [] hd0 (by rw [List.append_nil]; omega)
   rw [List.append_nil] at r1
   obtain ⟨s1, s2, q2, s3⟩ := putRecords_read a3 (by omega) h6.1 (rr _ h6 kb) b1 q3 (by rw [← r3]; exact d3.2) (by rw [← r3]; omega)
   rw [← r3] at s1
   have eb : d = a ++ (q2 ++ q3) := by rw [r3, s3, List.append_assoc]
   obtain ⟨t1, t2, q1, t3⟩ := putRecords_read u3 (by omega) h5.1 (rr _ h5 ka) a1 (q2 ++ q3) (by rw [← eb]; exact d3.2) (by rw [← eb]; omega)
   rw [← eb] at t1
   have ea : d = ((y ++ w2 m.q.ty) ++ w2 1) ++ (q1 ++ (q2 ++ q3)) := by rw [eb, t3, List.append_assoc]
   generalize q1 ++ (q2 ++ q3) = R at ea
   have ea1 : d = y ++ (w2 m.q.ty ++ (w2 1 ++ R)) := by rw [ea]; simp only [List.append_assoc]
   have ea2 : d = (y ++ w2 m.q.ty) ++ (w2 1 ++ R) := by rw [ea]; simp only [List.append_assoc]
   have hyq : ∃ q0, y = x ++ q0 := by
    have hy := y1
    rw [putName_val x3 (by omega) h3] at hy
    injection hy with hy
    obtain ⟨q, hq⟩ := nameOut_ext (b := x) (labels m.q.name) x
    exact ⟨q, by rw [← hy, hq]⟩
   obtain ⟨q0, hy0⟩ := hyq
   have ea0 : d = x ++ (q0 ++ (w2 m.q.ty ++ (w2 1 ++ R))) := by rw [ea1, hy0, List.append_assoc]
   obtain ⟨p1, p2, -⟩ := putHead_read h h1 h2 h5.1 h6.1 h7.1 x1 (q0 ++ (w2 m.q.ty ++ (w2 1 ++ R))) (by rw [← ea0]; exact d3.2) (by rw [← ea0]; omega)
   rw [← ea0] at p1
   have g0 : nameAt d (12 : Int) = (m.q.name, (y.length : Int), 0) := by
    have := putName_read x3 (by omega) h3 y1 (w2 m.q.ty ++ (w2 1 ++ R))
    rw [← ea1, p2] at this
    exact this
   have g1 : two d (y.length : Int) = (m.q.ty, true) := by rw [ea1]; exact two_at (by omega)
   have g2 : two d ((y.length : Int) + 2) = (1, true) := by rw [ea2, show (y.length : Int) + 2 = ((y ++ w2 m.q.ty).length : Int) by rw [L1]; omega]; exact two_at (by omega)
   have hdl : d.length ≤ 1048576 := by omega
   have hlen : y.length + 4 ≤ d.length := by rw [ea, List.length_append, L2]; omega
   have gq : s_GetQuest d 12 = some (m.q, (y.length : Int) + 4, 0) := by
    unfold s_GetQuest s_GetQuest_j0
    have hsm : Quest.sm ⟨m.q.name, m.q.ty⟩ := kq
    rw [s_GetName_eq d3.2 hdl (by simp only [i64]; omega), g0, bnd3_mk, decide_eq_true (show (0 : Int) = 0 from rfl), Bool.not_true, cond_false, grd_i, decide_eq_false (by omega), cond_false]
    simp only [s_Get2_eq d3.2 hdl]
    rw [g1, bnd2_mk, grd_i, g2, bnd2_mk, s_QuestOk_eq hsm, bnd1_mk]
    have hqp : questP ⟨m.q.name, m.q.ty⟩ = true := by unfold questP; rw [h3, h4]; rfl
    rw [hqp, Bool.not_true, cond_false, decide_eq_true (show (1 : Int) = 1 from rfl), Bool.not_true, cond_false, grd_i]
   refine .inr ⟨rfl, by omega, ⟨_, _, _, _, m.q, _, m.an, _, m.au, _, m.ad, p1, gq, ?_, s1, r1, rfl⟩, p1⟩
   rw [L2] at t1
   exact t1
theorem getRecord_ok {b : List Int} {i e : Int} {r : Rec} (hb : ∀ x, x ∈ b → 0 ≤ x ∧ x < 256) (hl : b.length ≤ 1048576) (hi : i64 i) (h : s_GetRecord b i = some (r, e, 0)) : r.sm ∧ recP r = true := by
 unfold s_GetRecord at h
 rw [s_GetName_eq hb hl hi] at h
 obtain ⟨h1, h2, h3⟩ := @nameAt_p b i hb hl
 generalize nameAt b i = x at h1 h2 h3 h
 obtain ⟨s, p, k⟩ := x
 simp only at h1 h2 h3
 rw [bnd3_mk] at h
 by_cases c : k = 0
 ·rw [decide_eq_true c, Bool.not_true, cond_false, grd_i] at h
  by_cases c2 : (b.length : Int) - 10 < p
  ·rw [decide_eq_true c2, cond_true] at h; exact absurd h (by simp)
  ·have r8 := @two_rng b (p + 8) hb
   rw [decide_eq_false c2, cond_false] at h
   simp only [s_Get2_eq hb hl, s_Get4_eq hb hl] at h
   generalize two b p = t at h
   generalize two b (p + 2) = u at h
   generalize four b (p + 4) = v at h
   generalize two b (p + 8) = w at r8 h
   obtain ⟨t1, t2⟩ := t
   obtain ⟨u1, u2⟩ := u
   obtain ⟨v1, v2⟩ := v
   obtain ⟨w1, w2⟩ := w
   obtain ⟨g, g1, -, g3, g4⟩ := getData_same (n := w1) (t := t1) hb hl (show i64 (p + 10) by simp only [i64]; omega)
   simp only at r8
   obtain ⟨d, e⟩ := g
   simp only at g3 g4
   simp only [bnd2_mk, g1] at h
   have hsm : Rec.sm ⟨s, d.ty, v1, d.n, d.host, d.text⟩ := ⟨by show s.size ≤ _; omega, by show d.host.size ≤ _; omega, by show d.text.size ≤ _; omega⟩
   rw [s_RecordOk_eq hsm] at h
   unfold s_GetRecord_j0 at h
   simp only [bnd2_mk, bnd1_mk, grd_pos (show i64 (p + 2) by simp only [i64]; omega), grd_pos (show i64 (p + 4) by simp only [i64]; omega), grd_pos (show i64 (p + 8) by simp only [i64]; omega), grd_pos (show i64 (p + 10) by simp only [i64]; omega), grd_pos (show i64 (p + 10 + w1) by simp only [i64]; omega)] at h
   by_cases c3 : e = 0
   ·rw [decide_eq_true c3] at h
    cases v2 with
    | false => exact absurd h (by simp)
    | true =>
     cases hu : decide (u1 = 1) with
     | false => rw [hu] at h; exact absurd h (by simp)
     | true =>
      rw [hu] at h
      cases hr : recP ⟨s, d.ty, v1, d.n, d.host, d.text⟩ with
      | false => rw [hr] at h; exact absurd h (by simp)
      | true =>
       rw [hr] at h
       injection h with h
       injection h with h _
       rw [← h]
       exact ⟨hsm, hr⟩
   ·rw [decide_eq_false c3] at h; exact absurd h (by simp [c3])
 ·rw [decide_eq_false c] at h; exact absurd h (by simp [c])
theorem getRecords_ok_lo {b : List Int} {n : Int} (hb : ∀ x, x ∈ b → 0 ≤ x ∧ x < 256) (hl : b.length ≤ 1048576) : ∀ (fl : Nat) (i : Int) (l : List Rec) (k : Int) (r : List Rec) (e : Int), i64 i → (∀ q, q ∈ l → q.sm ∧ recP q = true) → s_GetRecords_l0 b n fl i l k = some (r, e, 0) → ∀ q, q ∈ r → q.sm ∧ recP q = true
 | 0, i, l, k, r, e, _, _, h => by rw [s_GetRecords_l0] at h; cases h
 | fl + 1, i, l, k, r, e, hi, hq, h => by
  rw [s_GetRecords_l0] at h
  cases hc : decide (k < n) with
  | false =>
   rw [hc, cond_false] at h
   injection h with h
   injection h with h _
   rw [← h]; exact hq
  | true =>
   rw [hc, cond_true] at h
   obtain ⟨⟨d, p, k2⟩, g1, -, g3⟩ := getRecord_same hb hl hi
   rw [g1, bnd3_mk] at h
   by_cases c3 : k2 = 0
   ·rw [c3] at g1 h
    rw [decide_eq_true (show (0 : Int) = 0 from rfl), Bool.not_true, cond_false] at h
    by_cases a1 : (l ++ [d]).length ≤ 1099511627776
    ·by_cases a2 : i64 (k + 1)
     ·rw [grd_pos a1, grd_pos a2] at h
      refine getRecords_ok_lo hb hl fl p (l ++ [d]) (k + 1) r e g3 (fun q hq2 => ?_) h
      rcases List.mem_append.1 hq2 with hq2 | hq2
      ·exact hq q hq2
      ·rw [List.mem_singleton] at hq2; rw [hq2]; exact getRecord_ok hb hl hi g1
     ·rw [grd_pos a1, grd_neg' a2] at h; cases h
    ·rw [grd_neg' a1] at h; cases h
   ·rw [decide_eq_false c3, Bool.not_false, cond_true] at h
    exact absurd h (by simp [c3])
theorem getRecords_ok {b : List Int} {i n e : Int} {r : List Rec} (hb : ∀ x, x ∈ b → 0 ≤ x ∧ x < 256) (hl : b.length ≤ 1048576) (hi : i64 i) (h : s_GetRecords b i n = some (r, e, 0)) : r.length ≤ 8 ∧ ∀ q, q ∈ r → q.sm ∧ recP q = true := by
 obtain ⟨r', u1, -, -, u4⟩ := getRecords_same (n := n) hb hl hi
 rw [h] at u1; cases u1
 refine ⟨u4, ?_⟩
 unfold s_GetRecords at h
 rw [s_l1In_eq, bnd1_mk] at h
 cases hc : (decide (0 ≤ n) && decide (n ≤ 8)) with
 | false => rw [hc] at h; exact absurd h (by simp)
 | true =>
  rw [hc, Bool.not_true, cond_false] at h
  exact getRecords_ok_lo hb hl _ _ _ _ _ _ hi (fun q hq => by cases hq) h
theorem getQuest_ok {b : List Int} {i e : Int} {q : Quest} (hb : ∀ x, x ∈ b → 0 ≤ x ∧ x < 256) (hl : b.length ≤ 1048576) (hi : i64 i) (h : s_GetQuest b i = some (q, e, 0)) : q.sm ∧ questP q = true := by
 unfold s_GetQuest at h
 rw [s_GetName_eq hb hl hi] at h
 obtain ⟨h1, h2, h3⟩ := @nameAt_p b i hb hl
 generalize nameAt b i = x at h1 h2 h3 h
 obtain ⟨s, p, k⟩ := x
 simp only at h1 h2 h3
 rw [bnd3_mk] at h
 by_cases c : k = 0
 ·rw [decide_eq_true c, Bool.not_true, cond_false, grd_i] at h
  by_cases c2 : (b.length : Int) - 4 < p
  ·rw [decide_eq_true c2, cond_true] at h; exact absurd h (by simp)
  ·have hsm : Quest.sm ⟨s, (two b p).1⟩ := by show s.size ≤ _; omega
   rw [decide_eq_false c2, cond_false, s_Get2_eq hb hl, bnd2_mk, grd_i, s_Get2_eq hb hl, bnd2_mk, s_QuestOk_eq hsm, bnd1_mk] at h
   unfold s_GetQuest_j0 at h
   rw [grd_i] at h
   cases hq : questP ⟨s, (two b p).1⟩ with
   | false => rw [hq] at h; exact absurd h (by simp)
   | true =>
    rw [hq] at h
    cases hu : decide ((two b (p + 2)).1 = 1) with
    | false => rw [hu] at h; exact absurd h (by simp)
    | true =>
     rw [hu] at h
     injection h with h
     injection h with h _
     rw [← h]
     exact ⟨hsm, hq⟩
 ·rw [decide_eq_false c] at h; exact absurd h (by simp [c])
theorem bits_15 : ∀ x : Fin 256, 0 ≤ IntKind.i64.wrap (iand .u8 (x.val : Int) 15) ∧ IntKind.i64.wrap (iand .u8 (x.val : Int) 15) ≤ 15 := by decide +kernel
theorem bits_15' {x : Int} (h : 0 ≤ x ∧ x < 256) : 0 ≤ IntKind.i64.wrap (iand .u8 x 15) ∧ IntKind.i64.wrap (iand .u8 x 15) ≤ 15 := by
 have := bits_15 ⟨x.toNat, by omega⟩
 rw [show ((⟨x.toNat, by omega⟩ : Fin 256).val : Int) = x from by show (x.toNat : Int) = x; omega] at this
 exact this
theorem getHead_ok {b : List Int} {m : MMsg} {n1 n2 n3 : Int} (hb : ∀ x, x ∈ b → 0 ≤ x ∧ x < 256) (hl : b.length ≤ 1048576) (h : s_GetHead b = some (m, n1, n2, n3, true)) : (0 ≤ m.id ∧ m.id ≤ 65535) ∧ 0 ≤ m.code ∧ m.code ≤ 15 := by
 have h12 := getHead_len h
 have h3 := getD_rng hb (3 : Int).toNat
 have k0 := @two_rng b 0 hb
 unfold s_GetHead s_GetHead_j0 at h
 simp only [s_Get2_eq hb hl] at h
 rw [decide_eq_false (by omega), cond_false, idx_gd (i := 2) (by omega) (by omega), bnd1_mk, idx_gd (i := 3) (by omega) (by omega), bnd1_mk] at h
 generalize b.getD (2 : Int).toNat 0 = x at h
 generalize b.getD (3 : Int).toNat 0 = y at h h3
 generalize two b 0 = t0 at h k0
 generalize two b 4 = t4 at h
 generalize two b 6 = t6 at h
 generalize two b 8 = t8 at h
 generalize two b 10 = t10 at h
 obtain ⟨t0, u0⟩ := t0
 obtain ⟨t4, u4⟩ := t4
 obtain ⟨t6, u6⟩ := t6
 obtain ⟨t8, u8⟩ := t8
 obtain ⟨t10, u10⟩ := t10
 have h15 := bits_15' h3
 simp only [bnd2_mk, bnd1_mk] at h
 simp only at k0
 cases c1 : decide (iand .u8 x 120 = 0) with
 | false => rw [c1] at h; exact absurd h (by simp)
 | true =>
  cases c2 : decide (iand .u8 y 112 = 0) with
  | false => rw [c1, c2] at h; exact absurd h (by simp)
  | true =>
   cases c3 : decide (t4 = 1) with
   | false => rw [c1, c2, c3] at h; exact absurd h (by simp)
   | true =>
    rw [c1, c2, c3] at h
    injection h with h
    injection h with h _
    rw [← h]
    exact ⟨⟨k0.1, by show t0 ≤ _; omega⟩, h15⟩
theorem getMsg_ok {b : List Int} {m : MMsg} (hb : ∀ x, x ∈ b → 0 ≤ x ∧ x < 256) (hl : b.length ≤ 1048576) (h : s_GetMsg b = some (m, true)) : m.sm ∧ msgP m = true := by
 obtain ⟨h, n1, n2, n3, q, p, l1, p1, l2, p2, l3, a1, a2, a3, a4, a5, rfl⟩ := getMsg_dec hb hl h
 have i0 := getQuest_rng hb hl (by simp only [i64]; omega) a2
 obtain ⟨r1, u1, -, u3, -⟩ := getRecords_same (n := n1) hb hl i0
 rw [a3] at u1; cases u1
 obtain ⟨r2, v1, -, v3, -⟩ := getRecords_same (n := n2) hb hl u3
 simp only at v1
 rw [a4] at v1; cases v1
 obtain ⟨g1, g2⟩ := getHead_ok hb hl a1
 obtain ⟨q1, q2⟩ := getQuest_ok hb hl (by simp only [i64]; omega) a2
 obtain ⟨x1, x2⟩ := getRecords_ok hb hl i0 a3
 obtain ⟨y1, y2⟩ := getRecords_ok hb hl u3 a4
 obtain ⟨z1, z2⟩ := getRecords_ok hb hl v3 a5
 exact ⟨⟨q1, ⟨by show l1.length ≤ _; omega, fun r hr => (x2 r hr).1⟩, ⟨by show l2.length ≤ _; omega, fun r hr => (y2 r hr).1⟩, ⟨by show l3.length ≤ _; omega, fun r hr => (z2 r hr).1⟩⟩,
  p_msgP g1 g2 q2 ⟨x1, fun r hr => (x2 r hr).2⟩ ⟨y1, fun r hr => (y2 r hr).2⟩ ⟨z1, fun r hr => (z2 r hr).2⟩⟩
theorem below_any {α : Type} {c : Cur} {n : Int} {k : Int → Cur → Option α} {P : α → Prop} (h : c.inv) (h1 : 0 < n) (hk : ∀ x d, d.inv → 0 ≤ x → x < n → ∃ r, k x d = some r ∧ P r) : ∃ r, bnd2 (s_l1Below c n) k = some r ∧ P r := by
 by_cases h2 : n ≤ 256
 ·exact below_bnd h h1 h2 hk
 ·exact below_big h (by omega) hk
theorem blk_set {b : List Int} {n i : Nat} (h : blk b n) (x : Int) : blk (b.set i (IntKind.u8.wrap x)) n := ⟨by rw [List.length_set]; exact h.1, fun q hq => by
 rcases List.mem_or_eq_of_mem_set hq with hq | hq
 ·exact h.2 q hq
 ·rw [hq]; exact wrap8_rng x⟩
theorem blk_take {b : List Int} {n k : Nat} (h : blk b n) : blk (b.take k) n := ⟨by rw [List.length_take]; have := h.1; omega, fun q hq => h.2 q (List.mem_of_mem_take hq)⟩
theorem s_l1Bent_p {c : Cur} {b : List Int} {n : Nat} (h : c.inv) (hb : blk b n) (hn : n ≤ 100000) : ∃ r, s_l1Bent c b = some r ∧ r.2.inv ∧ blk r.1 (n + 1) := by
 have hl := hb.1
 unfold s_l1Bent
 rw [List.nil_append, grd_pos (by omega)]
 refine below_any h (by omega) fun k d hd _ _ => ?_
 refine bif_p (fun _ => bif_p (fun h0 => ?_) fun _ => ⟨_, rfl, hd, blk_le hb (by omega)⟩) fun _ => ?_
 ·have h0 := of_decide_eq_true h0
  refine below_any hd h0 fun i d hd i0 i1 => below_any hd (by omega) fun v d hd _ _ => ?_
  rw [idx_gd i0 i1, bnd1_mk]
  exact ⟨_, rfl, hd, blk_le (blk_set hb v) (by omega)⟩
 refine bif_p (fun _ => ?_) fun _ => ?_
 ·rw [grd_i]
  refine below_any hd (by omega) fun i d hd i0 i1 => ?_
  rw [grd_pos (by omega)]
  exact ⟨_, rfl, hd, blk_le (blk_take hb) (by omega)⟩
 refine bif_p (fun _ => int_bnd hd rfl rfl fun s d hd hs => ?_) fun _ => ?_
 ·rw [grd_pos (by rw [List.length_append, List.length_singleton]; omega)]
  exact ⟨_, rfl, hd, blk_app hb (blk_w s)⟩
 refine bif_p (fun _ => bif_p (fun h0 => ?_) fun _ => ⟨_, rfl, hd, blk_le hb (by omega)⟩) fun _ => ⟨_, rfl, hd, blk_le hb (by omega)⟩
 have h0 := of_decide_eq_true h0
 refine below_any hd h0 fun i d hd i0 i1 => ?_
 rw [idx_gd i0 i1, bnd1_mk]
 refine below_any hd (by omega) fun v d hd v0 _ => ?_
 rw [grd_pos v0]
 exact ⟨_, rfl, hd, blk_le (blk_set hb _) (by omega)⟩
theorem s_l8Packet_p {c : Cur} (h : c.inv) : ∃ r, s_l8Packet c = some r ∧ r.2.inv ∧ blk r.1 100001 := by
 unfold s_l8Packet
 obtain ⟨⟨m, d⟩, e, hd, hm⟩ := s_l7Draw_p h
 obtain ⟨B, b1, -, b3⟩ := putMsg_same2 (dm_sm (show m.dm 3 from hm) (by omega))
 rw [e, bnd2_mk, b1, bnd1_mk]
 replace hd : d.inv := hd
 refine once_bnd hd (by omega) (by omega) fun o d hd => bif_p (fun _ => ?_) fun _ => ⟨_, rfl, hd, blk_le b3 (by omega)⟩
 obtain ⟨⟨r, d2⟩, e2, hd2, hr⟩ := s_l1Bent_p hd b3 (by omega)
 rw [e2, bnd2_mk]
 exact ⟨_, rfl, hd2, hr⟩
theorem s_DrawGetMsg_p {p : List Int} (hp : p.length ≤ 1048576) : ∃ r, s_DrawGetMsg p = some r ∧ blk r 100001 := by
 obtain ⟨c, e, hc⟩ := s_l1New_p (b := p) hp
 obtain ⟨⟨r, d⟩, e2, -, hr⟩ := s_l8Packet_p hc
 unfold s_DrawGetMsg
 rw [e, bnd1_mk, e2, bnd2_mk]
 exact ⟨_, rfl, hr⟩
theorem s_DrawGetQuest_p {p : List Int} (hp : p.length ≤ 1048576) : ∃ r, s_DrawGetQuest p = some r ∧ blk r.1 100001 ∧ i64 r.2 := by
 obtain ⟨c, e, hc⟩ := s_l1New_p (b := p) hp
 obtain ⟨⟨r, d⟩, e2, hd, hr⟩ := s_l8Packet_p hc
 unfold s_DrawGetQuest
 rw [e, bnd1_mk, e2, bnd2_mk]
 replace hd : d.inv := hd
 refine int_bnd hd rfl rfl fun s d hd hs => ⟨_, rfl, hr, ?_⟩
 simp only [List.mem_cons, List.not_mem_nil, or_false] at hs
 show i64 s
 simp only [i64]; omega
theorem s_DrawGetHead_p {p : List Int} (hp : p.length ≤ 1048576) : ∃ r, s_DrawGetHead p = some r ∧ blk r 100001 := by
 obtain ⟨c, e, hc⟩ := s_l1New_p (b := p) hp
 obtain ⟨⟨r, d⟩, e2, hd, hr⟩ := s_l8Packet_p hc
 replace hd : d.inv := hd
 replace hr : blk r 100001 := hr
 unfold s_DrawGetHead s_DrawGetHead_j0
 rw [e, bnd1_mk, e2, bnd2_mk]
 refine bif_p (fun h5 => ?_) fun _ => ⟨_, rfl, hr⟩
 have h5 := of_decide_eq_true h5
 refine once_bnd hd (by omega) (by omega) fun o d hd => bif_p (fun _ => ?_) fun _ => ⟨_, rfl, hr⟩
 rw [show Cur.mk d.b d.i d.h = d from rfl]
 refine below_any hd (by omega) fun i d hd i0 i1 => ?_
 rw [grd_i]
 refine below_any hd (by omega) fun v d hd v0 _ => ?_
 rw [idx_gd (by omega) (by omega), bnd1_mk]
 exact ⟨_, rfl, blk_set hr v⟩
theorem law_FnPacketsBent {p : List Int} (hp : p.length ≤ 9223372036854775807 ∧ ∀ q, q ∈ p → 0 ≤ q ∧ q < 256) : w_FnPacketsBent p = some true := by
 unfold w_FnPacketsBent w_big
 rw [bnd1_mk]
 by_cases hb : 1048576 < (p.length : Int)
 ·rw [decide_eq_true hb]; rfl
 rw [decide_eq_false hb, cond_false]
 obtain ⟨B, b1, b2⟩ := s_DrawGetMsg_p (p := p) (by omega)
 obtain ⟨⟨C, i⟩, c1, c2, c3⟩ := s_DrawGetQuest_p (p := p) (by omega)
 obtain ⟨D, d1, d2⟩ := s_DrawGetHead_p (p := p) (by omega)
 replace c2 : blk C 100001 := c2
 have hbl := b2.1
 have hcl := c2.1
 have hdl := d2.1
 obtain ⟨⟨m, ok⟩, m1, m2, -⟩ := getMsg_same b2.2 (by omega)
 obtain ⟨⟨q, e, k⟩, q1, q2⟩ := getQuest_same (i := i) c2.2 (by omega) c3
 obtain ⟨⟨h, n1, n2, n3, hk⟩, h1, h2, -⟩ := getHead_same d2.2 (by omega)
 rw [b1, bnd1_mk, m2, bnd2_mk, m1, bnd2_mk, c1, bnd2_mk, q2, bnd3_mk, q1, bnd3_mk, d1, bnd1_mk, h2, bnd5_mk, h1, bnd5_mk, w_sameMsg_self, bnd1_mk, w_sameMsg_self, bnd1_mk]
 simp only [beq_self_eq_true, decide_true, Bool.true_and, Bool.not_true, cond_false]
 unfold w_FnPacketsBent_j0
 rw [cond_false]
 cases ok with
 | false => rfl
 | true =>
  rw [Bool.not_true, cond_false]
  obtain ⟨g1, g2⟩ := getMsg_ok b2.2 (by omega) m1
  obtain ⟨E, e1, e2, e3⟩ := putMsg_same2 g1
  rw [i_MsgOk_eq g1, bnd1_mk, g2, Bool.not_true, cond_false, e2, bnd1_mk]
  have hel := e3.1
  obtain ⟨g, f1, f2, -⟩ := getMsg_same e3.2 (by omega)
  rcases putMsg_dec g1 e1 with rfl | ⟨k1, k2, k3, k4⟩
  ·obtain ⟨g, gk⟩ := g
   rw [f2, bnd2_mk]; rfl
  ·rw [dec_getMsg k2 k3] at f1
   injection f1 with f1
   subst f1
   have h12 := getHead_len k4
   rw [f2, bnd2_mk, decide_eq_false (by omega), cond_false, cond_true, w_sameMsg_self, bnd1_mk]
end Go.Abs.M
