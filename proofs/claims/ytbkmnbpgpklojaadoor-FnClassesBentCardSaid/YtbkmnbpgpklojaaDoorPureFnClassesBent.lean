/- The pure law of FnClassesBent: its pure function answers true. -/
import Derived.Test.YtbkmnbpgpklojaaDoorFnsFnClassesBent
set_option linter.unusedSimpArgs false
set_option linter.unusedVariables false
namespace Go.Abs.M
open Go Go.Abs
theorem idx_nat {α : Type} {l : List α} {n : Nat} : idx l (n : Int) = l[n]? := by simp [idx]

theorem int_succ_ne (n : Nat) : ((n : Int) + 1 = 0) ↔ False := ⟨fun h => by omega, False.elim⟩

theorem idx_zero {α : Type} {l : List α} : idx l 0 = l[0]? := by simp [idx]

def zrec : Rec := ⟨⟨#[]⟩, 0, 0, 0, ⟨#[]⟩, ⟨#[]⟩⟩

def first (p : Rec → Bool) (l : List Rec) : Rec := (l.find? p).getD zrec

theorem s_StartOf_l1_eq : ∀ (l : List Rec) (i : Nat), s_StartOf_l1 l i = some (first (fun r => decide (r.ty = 6)) l)
  | [], i => rfl
  | r :: l, i => by
    rw [s_StartOf_l1, s_StartOf_l1_eq l (i + 1)]
    by_cases c : r.ty = 6 <;> simp [first, c]

theorem s_StartOf_eq {z : MZone} : s_StartOf z = some (first (fun r => decide (r.ty = 6)) z.l) := s_StartOf_l1_eq _ _

def setOf (l : List Rec) (nm : ByteArray) (k : Int) : List Rec := l.filter fun r => decide (r.name = nm) && decide (r.ty = k)

theorem setOf_len (l : List Rec) (nm : ByteArray) (k : Int) : (setOf l nm k).length ≤ l.length := List.length_filter_le ..

theorem i_SetOf_l0_eq (nm : ByteArray) (k : Int) : ∀ (l out : List Rec) (i : Nat), out.length + l.length ≤ 1099511627776 → i_SetOf_l0 nm k l out i = some (out ++ setOf l nm k)
  | [], out, i, _ => by simp [i_SetOf_l0, setOf]
  | r :: l, out, i, h => by
    simp only [List.length_cons] at h
    have h1 := i_SetOf_l0_eq nm k l (out ++ [r]) (i + 1) (by simp; omega)
    have h2 := i_SetOf_l0_eq nm k l out (i + 1) (by omega)
    rw [i_SetOf_l0]
    by_cases c : r.name = nm <;> by_cases c' : r.ty = k <;> simp [i_SetOf_j1, c, c', h2, setOf] <;> first
      | (rw [grd_pos (by omega), h1]; simp [setOf, c, c'])

theorem s_SetOf_l0_eq (nm : ByteArray) (k : Int) : ∀ (l out : List Rec) (i : Nat), out.length + l.length ≤ 1099511627776 → s_SetOf_l0 nm k l out i = some (out ++ setOf l nm k)
  | [], out, i, _ => by simp [s_SetOf_l0, setOf]
  | r :: l, out, i, h => by
    simp only [List.length_cons] at h
    have h1 := s_SetOf_l0_eq nm k l (out ++ [r]) (i + 1) (by simp; omega)
    have h2 := s_SetOf_l0_eq nm k l out (i + 1) (by omega)
    rw [s_SetOf_l0]
    by_cases c : r.name = nm <;> by_cases c' : r.ty = k <;> simp [s_SetOf_j1, c, c', h2, setOf] <;> first
      | (rw [grd_pos (by omega), h1]; simp [setOf, c, c'])

def aliasIn (m : MMsg) : Rec × Bool := match setOf m.an m.q.name 5 with | [] => (zrec, false) | r :: _ => (r, true)

def Rec.sm (r : Rec) : Prop := r.name.size ≤ 1048576 ∧ r.host.size ≤ 1048576 ∧ r.text.size ≤ 1048576

def smL (l : List Rec) : Prop := l.length ≤ 1048576 ∧ ∀ r, r ∈ l → r.sm

def MZone.sm (z : MZone) : Prop := z.apex.size ≤ 1048576 ∧ smL z.l

def Quest.sm (q : Quest) : Prop := q.name.size ≤ 1048576

def MMsg.sm (m : MMsg) : Prop := m.q.sm ∧ smL m.an ∧ smL m.au ∧ smL m.ad

theorem setOf_sm {l : List Rec} (h : smL l) (nm : ByteArray) (k : Int) : smL (setOf l nm k) := ⟨Nat.le_trans (setOf_len l nm k) h.1, fun r hr => h.2 r ((List.mem_filter.1 hr).1)⟩

theorem i_SetOf_eq {l : List Rec} {nm : ByteArray} {k : Int} (h : smL l) : i_SetOf l nm k = some (setOf l nm k) := by
  unfold i_SetOf; rw [i_SetOf_l0_eq _ _ _ _ _ (by have := h.1; simp; omega)]; rfl

theorem s_SetOf_eq {l : List Rec} {nm : ByteArray} {k : Int} (h : smL l) : s_SetOf l nm k = some (setOf l nm k) := by
  unfold s_SetOf; rw [s_SetOf_l0_eq _ _ _ _ _ (by have := h.1; simp; omega)]; rfl

theorem i_AliasIn_eq {m : MMsg} (h : m.sm) : i_AliasIn m = some (aliasIn m) := by
  unfold i_AliasIn aliasIn
  rw [i_SetOf_eq h.2.1, bnd1_mk]
  cases setOf m.an m.q.name 5 with
  | nil => rfl
  | cons r l => simp [idx_zero, int_succ_ne]

theorem s_AliasIn_eq {m : MMsg} (h : m.sm) : s_AliasIn m = some (aliasIn m) := by
  unfold s_AliasIn aliasIn
  rw [s_SetOf_eq h.2.1, bnd1_mk]
  cases setOf m.an m.q.name 5 with
  | nil => rfl
  | cons r l => simp [idx_zero, int_succ_ne]

def mkB (l : List UInt8) : ByteArray := ⟨l.toArray⟩

def bts (s : ByteArray) : List UInt8 := s.data.toList

theorem mkB_bts (s : ByteArray) : mkB (bts s) = s := rfl

theorem bts_len (s : ByteArray) : (bts s).length = s.size := rfl

theorem bts_inj {a b : ByteArray} : bts a = bts b ↔ a = b := ⟨fun h => by rw [← mkB_bts a, ← mkB_bts b, h], fun h => by rw [h]⟩

theorem bts_nil_iff (s : ByteArray) : s = ⟨#[]⟩ ↔ bts s = [] := ⟨fun h => by subst h; rfl, fun h => bts_inj.1 (by rw [h]; rfl)⟩

theorem bts_extract (s : ByteArray) (a b : Nat) : bts (s.extract a b) = ((bts s).drop a).take (b - a) := by
  unfold bts
  rw [ByteArray.data_extract, Array.toList_extract, List.extract_eq_take_drop]

theorem extract_mkB (s : ByteArray) (a b : Nat) : s.extract a b = mkB (((bts s).drop a).take (b - a)) := by
  rw [← mkB_bts (s.extract a b), bts_extract]

theorem sidx_nat {s : ByteArray} {n : Nat} {b : UInt8} (h : (bts s)[n]? = some b) : sidx s (n : Int) = some (b.toNat : Int) := by
  obtain ⟨h1, h2⟩ := List.getElem?_eq_some_iff.1 h
  have h3 : n < s.size := h1
  unfold sidx
  rw [dif_pos ⟨by omega, by simpa using h3⟩]
  subst h2
  rfl

/-- The parts of bytes between the dots. -/
def segs : List UInt8 → List UInt8 → List (List UInt8)
  | cur, [] => [cur]
  | cur, b :: l => if b = 46 then cur :: segs [] l else segs (cur ++ [b]) l

def labels (s : ByteArray) : List ByteArray := if bts s = [] then [] else (segs [] (bts s)).map mkB

theorem segs_len : ∀ (l cur : List UInt8), (segs cur l).length ≤ l.length + 1
  | [], cur => by simp [segs]
  | b :: l, cur => by
    unfold segs
    split
    · have := segs_len l []; simp; omega
    · have := segs_len l (cur ++ [b]); simp; omega

theorem labels_len (s : ByteArray) : (labels s).length ≤ s.size + 1 := by
  unfold labels
  split
  · simp
  · have := segs_len (bts s) []
    rw [bts_len] at this
    simpa using this

theorem u8_eq46 (b : UInt8) : ((b.toNat : Int) = 46) ↔ b = 46 := by
  constructor
  · intro h
    have : b.toNat = 46 := by omega
    exact UInt8.toNat_inj.1 this
  · intro h; subst h; rfl

/-- The loop of the reference's Labels: from the place i on, the part having begun at the place f. -/
theorem s_Labels_l0_eq (s : ByteArray) (hs : s.size ≤ 1048576) (hne : s ≠ ⟨#[]⟩) : ∀ (k : Nat) (i f fl : Nat) (out : List ByteArray), s.size - i = k → f ≤ i → i ≤ s.size → out.length ≤ f → k + 1 < fl →
    s_Labels_l0 s fl out (f : Int) (i : Int) = some (out ++ (segs (((bts s).drop f).take (i - f)) ((bts s).drop i)).map mkB)
  | 0, i, f, fl, out, hk, hfi, hi, ho, hfl => by
    obtain ⟨fl, rfl⟩ : ∃ q, fl = q + 1 := ⟨fl - 1, by omega⟩
    obtain ⟨fl, rfl⟩ : ∃ q, fl = q + 1 := ⟨fl - 1, by omega⟩
    have hie : i = s.size := by omega
    rw [s_Labels_l0]
    have e1 : (bts s).drop i = [] := List.drop_eq_nil_of_le (by rw [bts_len]; omega)
    rw [e1]
    simp only [segs, List.map_cons, List.map_nil]
    have c1 : decide ((i : Int) ≤ (s.size : Int)) = true := by simpa using hi
    have c2 : (!decide (s = (⟨#[]⟩ : ByteArray))) = true := by simpa using hne
    rw [c1, c2, cond_true, s_Labels_j1, cond_true]
    have c3 : decide ((i : Int) = (s.size : Int)) = true := by simp [hie]
    rw [c3, cond_true, s_Labels_j2, cond_true, grd_pos (by omega), grd_pos (by simp; omega), grd_pos (by simp only [i64]; omega), grd_pos (by simp only [i64]; omega), s_Labels_l0]
    have c4 : decide ((i : Int) + 1 ≤ (s.size : Int)) = false := by simp; omega
    rw [c4, cond_false, s_Labels_j1, cond_false, extract_mkB]
    simp
  | k + 1, i, f, fl, out, hk, hfi, hi, ho, hfl => by
    obtain ⟨fl, rfl⟩ : ∃ q, fl = q + 1 := ⟨fl - 1, by omega⟩
    have hlt : i < (bts s).length := by rw [bts_len]; omega
    rw [s_Labels_l0]
    have c1 : decide ((i : Int) ≤ (s.size : Int)) = true := by simpa using hi
    have c2 : (!decide (s = (⟨#[]⟩ : ByteArray))) = true := by simpa using hne
    rw [c1, c2, cond_true, s_Labels_j1, cond_true]
    have c3 : decide ((i : Int) = (s.size : Int)) = false := by simp; omega
    have hb : (bts s)[i]? = some (bts s)[i] := List.getElem?_eq_getElem hlt
    rw [c3, cond_false, sidx_nat hb, bnd1_mk, List.drop_eq_getElem_cons hlt, segs]
    have e2 : ((i : Int) + 1) = ((i + 1 : Nat) : Int) := by omega
    by_cases c : (bts s)[i] = 46
    · rw [if_pos c]
      have c5 : decide ((((bts s)[i]).toNat : Int) = 46) = true := by simpa using (u8_eq46 _).2 c
      rw [c5, s_Labels_j2, cond_true, grd_pos (by omega), grd_pos (by simp; omega), grd_pos (by simp only [i64]; omega), grd_pos (by simp only [i64]; omega), e2,
        s_Labels_l0_eq s hs hne k (i + 1) (i + 1) fl _ (by omega) (by omega) (by omega) (by simp; omega) (by omega), extract_mkB]
      simp
    · rw [if_neg c]
      have c5 : decide ((((bts s)[i]).toNat : Int) = 46) = false := by
        have := fun h => c ((u8_eq46 _).1 h)
        simpa using this
      rw [c5, s_Labels_j2, cond_false, grd_pos (by simp only [i64]; omega), e2, s_Labels_l0_eq s hs hne k (i + 1) f fl _ (by omega) (by omega) (by omega) ho (by omega)]
      have e3 : ((bts s).drop f).take (i + 1 - f) = ((bts s).drop f).take (i - f) ++ [(bts s)[i]] := by
        rw [show i + 1 - f = (i - f) + 1 by omega, List.take_add_one]
        congr 1
        rw [List.getElem?_drop, show f + (i - f) = i by omega, hb]
        rfl
      rw [e3]

theorem s_Labels_eq {s : ByteArray} (hs : s.size ≤ 1048576) : s_Labels s = some (labels s) := by
  unfold s_Labels
  by_cases hne : s = ⟨#[]⟩
  · subst hne
    have : fuel0 = 4611686018427387903 + 1 := rfl
    rw [this, s_Labels_l0]
    rfl
  · have h := s_Labels_l0_eq s hs hne s.size 0 0 fuel0 [] (by omega) (by omega) (by omega) (by simp) (by unfold fuel0; omega)
    have e : bts s ≠ [] := fun h => hne ((bts_nil_iff s).2 h)
    simpa [labels, e] using h

theorem indexByte_none : ∀ {l : List UInt8}, Lib.indexByte l 46 = -1 → ∀ cur, segs cur l = [cur ++ l]
  | [], _, cur => by simp [segs]
  | b :: l, h, cur => by
    unfold Lib.indexByte at h
    by_cases c : b = 46
    · subst c; simp at h
    · have hb : (b == (46 : UInt8)) = false := by simpa using c
      rw [hb] at h
      simp only [Bool.false_eq_true, if_false] at h
      by_cases c' : Lib.indexByte l 46 = -1
      · rw [segs, if_neg c, indexByte_none c']; simp
      · have h1 := Lib.indexByte_ge l 46
        rw [if_neg (by simpa using c')] at h
        omega

theorem indexByte_some : ∀ {l : List UInt8} {k : Nat}, Lib.indexByte l 46 = (k : Int) → k < l.length ∧ ∀ cur, segs cur l = (cur ++ l.take k) :: segs [] (l.drop (k + 1))
  | [], k, h => by simp [Lib.indexByte] at h
  | b :: l, k, h => by
    unfold Lib.indexByte at h
    by_cases c : b = 46
    · subst c
      simp at h
      have : k = 0 := by omega
      subst this
      exact ⟨by simp, fun cur => by simp [segs]⟩
    · have hb : (b == (46 : UInt8)) = false := by simpa using c
      rw [hb] at h
      simp only [Bool.false_eq_true, if_false] at h
      have h1 := Lib.indexByte_ge l 46
      by_cases c' : Lib.indexByte l 46 = -1
      · rw [if_pos (by simpa using c')] at h; omega
      · rw [if_neg (by simpa using c')] at h
        obtain ⟨q, rfl⟩ : ∃ q, k = q + 1 := ⟨k - 1, by omega⟩
        obtain ⟨h2, h3⟩ := indexByte_some (l := l) (k := q) (by omega)
        exact ⟨by simp; omega, fun cur => by rw [segs, if_neg c, h3]; simp⟩

theorem count_segs : ∀ (l cur : List UInt8), (segs cur l).length = Lib.countByte l 46 + 1
  | [], cur => by simp [segs, Lib.countByte]
  | b :: l, cur => by
    unfold segs
    by_cases c : b = 46
    · subst c; rw [if_pos rfl, List.length_cons, count_segs l []]; simp [Lib.countByte]
    · rw [if_neg c, count_segs l]; simp [Lib.countByte, c]

theorem dotB : (⟨#[46]⟩ : ByteArray).size = 1 := rfl

theorem dot_sidx : sidx (⟨#[46]⟩ : ByteArray) 0 = some 46 := rfl

theorem strings_Index_dot {s : ByteArray} : strings_Index s ⟨#[46]⟩ = some (if s = ⟨#[46]⟩ then 0 else Lib.indexByte (bts s) 46) := by
  unfold strings_Index internal_stringslite_Index
  rw [dotB]
  by_cases c : s = ⟨#[46]⟩
  · subst c; simp [internal_stringslite_Index_j0]
  · have c' : ¬ ((⟨#[46]⟩ : ByteArray) = s) := fun h => c h.symm
    simp [internal_stringslite_Index_j0, c, c', dotB, dot_sidx, internal_stringslite_IndexByte]
    rfl

theorem strings_Index_dot' {s : ByteArray} : strings_Index s ⟨#[46]⟩ = some (Lib.indexByte (bts s) 46) := by
  rw [strings_Index_dot]
  by_cases c : s = ⟨#[46]⟩
  · subst c; rfl
  · rw [if_neg c]

theorem segs_pos (cur l : List UInt8) : 1 ≤ (segs cur l).length := by rw [count_segs]; omega

theorem idx_cases (l : List UInt8) : Lib.indexByte l 46 = -1 ∨ ∃ k : Nat, Lib.indexByte l 46 = (k : Int) := by
  have h := Lib.indexByte_ge l 46
  rcases Int.lt_or_le (Lib.indexByte l 46) 0 with h1 | h1
  · exact .inl (by omega)
  · exact .inr ⟨(Lib.indexByte l 46).toNat, by omega⟩

theorem genSplit_j1_eq {r : ByteArray} {a : List ByteArray} {i : Nat} (hi : i < a.length) (ha : a.length ≤ 1099511627776) : strings_genSplit_j1 r a (i : Int) = some (a.take i ++ [r]) := by
  unfold strings_genSplit_j1
  rw [idx_nat, List.getElem?_eq_getElem hi, bnd1_mk, grd_pos (by simp only [i64]; omega), grd_pos (by omega)]
  congr 1
  have e : ((i : Int) + 1).toNat - ((0 : Nat) : Int).toNat = i + 1 := by omega
  have e2 : (0 + ((0 : Nat) : Int).toNat) = 0 := by omega
  rw [e, e2, List.drop_zero, Int.toNat_natCast, List.take_add_one, List.take_set_of_le (Nat.le_refl i), List.getElem?_set_self hi]
  rfl

theorem genSplit_l2_eq (p0 : ByteArray) (j : Int) (n : Nat) (hj : (if (p0.size : Int) + 1 < j then (p0.size : Int) + 1 else j) - 1 = (n : Int)) : ∀ (k i fl : Nat) (r : ByteArray) (a : List ByteArray), n - i = k → i ≤ n → k < fl → a.length = n + 1 → a.length ≤ 1099511627776 → (segs [] (bts r)).length = n + 1 - i → r.size ≤ 1048576 →
    strings_genSplit_l2 p0 ⟨#[46]⟩ 0 j fl r a (i : Int) = some (a.take i ++ (segs [] (bts r)).map mkB)
  | 0, i, fl, r, a, hk, hi, hf, ha, ha', hs, hr => by
    obtain ⟨fl, rfl⟩ : ∃ q, fl = q + 1 := ⟨fl - 1, by omega⟩
    have hin : i = n := by omega
    rw [strings_genSplit_l2, hj]
    have c : decide ((i : Int) < (n : Int)) = false := by simp; omega
    rw [c, cond_false, genSplit_j1_eq (by omega) ha']
    rcases idx_cases (bts r) with h | ⟨q, h⟩
    · rw [indexByte_none h]; rfl
    · have h1 := (indexByte_some h).2 []
      have h2 := segs_pos [] ((bts r).drop (q + 1))
      rw [h1] at hs
      simp only [List.length_cons] at hs
      omega
  | k + 1, i, fl, r, a, hk, hi, hf, ha, ha', hs, hr => by
    obtain ⟨fl, rfl⟩ : ∃ q, fl = q + 1 := ⟨fl - 1, by omega⟩
    rw [strings_genSplit_l2, hj]
    have c : decide ((i : Int) < (n : Int)) = true := by simp; omega
    rw [c, cond_true, strings_Index_dot', bnd1_mk]
    rcases idx_cases (bts r) with h | ⟨q, h⟩
    · rw [indexByte_none h] at hs
      simp at hs
      omega
    · obtain ⟨h1, h2⟩ := indexByte_some h
      have h2 := h2 []
      rw [bts_len] at h1
      have hi' : i < a.length := by omega
      rw [h, dotB]
      have c' : decide ((q : Int) < 0) = false := by simp
      have e1 : ((i : Int) + 1) = ((i + 1 : Nat) : Int) := by omega
      rw [c', cond_false, grd_pos (by simp only [i64]; omega), grd_pos (by omega), idx_nat, List.getElem?_eq_getElem hi', bnd1_mk, grd_pos (by simp only [i64]; omega), grd_pos (by omega), grd_pos (by simp only [i64]; omega), e1]
      have e2 : bts (r.extract ((q : Int) + ((1 : Nat) : Int)).toNat (r.size : Int).toNat) = (bts r).drop (q + 1) := by
        rw [bts_extract]
        have e3 : ((q : Int) + ((1 : Nat) : Int)).toNat = q + 1 := by omega
        rw [e3, List.take_of_length_le (by rw [List.length_drop, bts_len]; omega)]
      rw [h2, List.length_cons] at hs
      rw [genSplit_l2_eq p0 j n hj k (i + 1) fl _ _ (by omega) (by omega) (by omega) (by simp [ha]) (by simp [ha']) (by rw [e2]; omega) (by rw [ByteArray.size_extract]; omega), e2, h2]
      congr 1
      rw [Int.toNat_natCast, List.take_add_one, List.take_set_of_le (Nat.le_refl i), List.getElem?_set_self hi', extract_mkB]
      have e4 : ((q : Int) + 0).toNat - ((0 : Nat) : Int).toNat = q := by omega
      rw [e4]
      simp

theorem strings_Count_dot {s : ByteArray} : strings_Count s ⟨#[46]⟩ = some ((Lib.countByte (bts s) 46 : Nat) : Int) := by
  unfold strings_Count
  have c1 : decide (((⟨#[46]⟩ : ByteArray).size : Int) = 0) = false := by rw [dotB]; decide
  have c2 : decide (((⟨#[46]⟩ : ByteArray).size : Int) = 1) = true := by rw [dotB]; decide
  have h46 : (46 : Int).toNat.toUInt8 = 46 := by decide
  rw [c1, cond_false, c2, cond_true, dot_sidx, bnd1_mk, h46]
  rfl

theorem i_Labels_eq {s : ByteArray} (hs : s.size ≤ 1048576) : i_Labels s = some (labels s) := by
  unfold i_Labels
  by_cases hne : s = ⟨#[]⟩
  · subst hne
    have e : bts (⟨#[]⟩ : ByteArray) = [] := rfl
    simp [labels, e]
  · have e : bts s ≠ [] := fun h => hne ((bts_nil_iff s).2 h)
    have hne' : ¬ ((⟨#[46]⟩ : ByteArray) = ⟨#[]⟩) := by decide
    have hc := count_segs (bts s) []
    have hl := segs_len (bts s) []
    rw [bts_len] at hl
    have e0 := strings_Count_dot (s := s)
    have hjj : (if (s.size : Int) + 1 < ((Lib.countByte (bts s) 46 : Nat) : Int) + 1 then (s.size : Int) + 1 else ((Lib.countByte (bts s) 46 : Nat) : Int) + 1) = ((Lib.countByte (bts s) 46 : Nat) : Int) + 1 := by rw [if_neg (by omega)]
    have hloop := genSplit_l2_eq s (((Lib.countByte (bts s) 46 : Nat) : Int) + 1) (Lib.countByte (bts s) 46) (by rw [hjj]; omega) (Lib.countByte (bts s) 46) 0 fuel0 s (List.replicate (((Lib.countByte (bts s) 46 : Nat) : Int) + 1).toNat ⟨#[]⟩) (by omega) (by omega) (by unfold fuel0; omega) (by simp) (by simp; omega) (by omega) hs
    have g0 : decide ((-1 : Int) = 0) = false := by decide
    have g1 : decide ((⟨#[46]⟩ : ByteArray) = ⟨#[]⟩) = false := decide_eq_false hne'
    have g2 : decide ((-1 : Int) < 0) = true := by decide
    rw [decide_eq_false hne, cond_false, strings_Split, strings_genSplit, g0, g1, g2, cond_false, cond_false, cond_true, e0, bnd1_mk, grd_pos (by simp only [i64]; omega), strings_genSplit_j0, hjj, grd_pos (by simp only [i64]; omega), grd_pos (by omega), grd_pos (by simp only [i64]; omega)]
    rw [Int.natCast_zero] at hloop
    rw [hloop, bnd1_mk, bnd1_mk]
    unfold labels
    rw [if_neg e, List.take_zero, List.nil_append]

theorem idx_sub {α : Type} {l : List α} {n : Nat} (h : n ≤ l.length) : idx l ((l.length : Int) - (n : Int)) = l[l.length - n]? := by
  have e : (l.length : Int) - (n : Int) = ((l.length - n : Nat) : Int) := by omega
  rw [e, idx_nat]

def under (a b : ByteArray) : Bool := decide ((labels b).length ≤ (labels a).length) && decide ((labels a).drop ((labels a).length - (labels b).length) = labels b)

theorem slices_Equal_string_l0_eq : ∀ (t : List ByteArray) (pre q : List ByteArray), t.length = q.length → slices_Equal_string_l0 (pre ++ q) t pre.length = some (decide (t = q))
  | [], pre, q, h => by cases q with | nil => rfl | cons a b => simp at h
  | x :: t, pre, q, h => by
    cases q with
    | nil => simp at h
    | cons y q =>
      rw [slices_Equal_string_l0]
      have := slices_Equal_string_l0_eq t (pre ++ [y]) q (by simpa using h)
      simp only [idx_nat]
      simp only [List.length_append, List.length_singleton, List.append_assoc, List.singleton_append] at this
      by_cases c : x = y <;> simp [c, this]

theorem slices_Equal_string_eq {a b : List ByteArray} : slices_Equal_string a b = some (decide (a = b)) := by
  unfold slices_Equal_string
  by_cases c : a.length = b.length
  · have := slices_Equal_string_l0_eq a [] b c
    simpa [c] using this
  · have c' : a ≠ b := fun h => c (by rw [h])
    have c2 : ¬ ((a.length : Int) = (b.length : Int)) := by omega
    simp [c2, c']

theorem i_Under_eq {a b : ByteArray} (ha : a.size ≤ 1048576) (hb : b.size ≤ 1048576) : i_Under a b = some (under a b) := by
  unfold i_Under
  have la := labels_len a
  have lb := labels_len b
  rw [i_Labels_eq ha, i_Labels_eq hb, bnd1_mk, bnd1_mk]
  unfold under
  by_cases c : (labels b).length ≤ (labels a).length
  · have c' : decide (((labels b).length : Int) ≤ ((labels a).length : Int)) = true := by simpa using c
    rw [c', cond_true, grd_pos (by simp only [i64]; omega), grd_pos (by omega), slices_Equal_string_eq, bnd1_mk]
    have e1 : (((labels a).length : Int) - ((labels b).length : Int)).toNat = (labels a).length - (labels b).length := by omega
    rw [e1, List.take_of_length_le (by simp)]
    simp [c]
  · have c' : decide (((labels b).length : Int) ≤ ((labels a).length : Int)) = false := by simp; omega
    rw [c', cond_false]
    simp [c]

/-- The loop of the reference's Under: the last i - 1 parts are alike. -/
theorem s_Under_l0_eq (x y : List ByteArray) (hx : x.length ≤ 2097152) (hl : y.length ≤ x.length) : ∀ (k i fl : Nat), y.length + 1 - i = k → 1 ≤ i → i ≤ y.length + 1 → k < fl → x.drop (x.length - (i - 1)) = y.drop (y.length - (i - 1)) →
    s_Under_l0 x y fl (i : Int) = some (decide (x.drop (x.length - y.length) = y))
  | 0, i, fl, hk, h1, hi, hf, hd => by
    obtain ⟨fl, rfl⟩ : ∃ q, fl = q + 1 := ⟨fl - 1, by omega⟩
    rw [s_Under_l0]
    have c : decide ((i : Int) ≤ (y.length : Int)) = false := by simp; omega
    have e : i - 1 = y.length := by omega
    rw [e, Nat.sub_self, List.drop_zero] at hd
    rw [c, cond_false, decide_eq_true hd]
  | k + 1, i, fl, hk, h1, hi, hf, hd => by
    obtain ⟨fl, rfl⟩ : ∃ q, fl = q + 1 := ⟨fl - 1, by omega⟩
    rw [s_Under_l0]
    have c : decide ((i : Int) ≤ (y.length : Int)) = true := by simp; omega
    have hx' : x.length - i < x.length := by omega
    have hy' : y.length - i < y.length := by omega
    rw [c, cond_true, grd_pos (by simp only [i64]; omega), idx_sub (by omega), List.getElem?_eq_getElem hx', bnd1_mk, grd_pos (by simp only [i64]; omega), idx_sub (by omega), List.getElem?_eq_getElem hy', bnd1_mk]
    have ex : x.drop (x.length - i) = x[x.length - i] :: x.drop (x.length - (i - 1)) := by
      rw [List.drop_eq_getElem_cons hx', show x.length - i + 1 = x.length - (i - 1) by omega]
    have ey : y.drop (y.length - i) = y[y.length - i] :: y.drop (y.length - (i - 1)) := by
      rw [List.drop_eq_getElem_cons hy', show y.length - i + 1 = y.length - (i - 1) by omega]
    by_cases c2 : x[x.length - i] = y[y.length - i]
    · have e1 : ((i : Int) + 1) = ((i + 1 : Nat) : Int) := by omega
      rw [decide_eq_true c2, Bool.not_true, cond_false, grd_pos (by simp only [i64]; omega), e1, s_Under_l0_eq x y hx hl k (i + 1) fl (by omega) (by omega) (by omega) (by omega) (by rw [Nat.add_sub_cancel, ex, ey, c2, hd])]
    · rw [decide_eq_false c2, Bool.not_false, cond_true]
      have : ¬ (x.drop (x.length - y.length) = y) := fun h => c2 (by
        have h2 : (x.drop (x.length - y.length)).drop (y.length - i) = y.drop (y.length - i) := by rw [h]
        rw [List.drop_drop, show x.length - y.length + (y.length - i) = x.length - i by omega, ex, ey] at h2
        exact (List.cons.inj h2).1)
      rw [decide_eq_false this]

theorem s_Under_eq {a b : ByteArray} (ha : a.size ≤ 1048576) (hb : b.size ≤ 1048576) : s_Under a b = some (under a b) := by
  unfold s_Under
  have la := labels_len a
  have lb := labels_len b
  rw [s_Labels_eq ha, s_Labels_eq hb, bnd1_mk, bnd1_mk]
  unfold under
  by_cases c : (labels b).length ≤ (labels a).length
  · have c' : decide (((labels a).length : Int) < ((labels b).length : Int)) = false := by simp; omega
    have := s_Under_l0_eq (labels a) (labels b) (by omega) c (labels b).length 1 fuel0 (by omega) (by omega) (by omega) (by unfold fuel0; omega) (by simp)
    rw [c', cond_false]
    rw [show ((1 : Nat) : Int) = 1 from rfl] at this
    rw [this]
    simp [c]
  · have c' : decide (((labels a).length : Int) < ((labels b).length : Int)) = true := by simp; omega
    rw [c', cond_true]
    simp [c]

theorem s_Exists_l0_eq {s : ByteArray} (hs : s.size ≤ 1048576) : ∀ (l : List Rec) (i : Nat), (∀ r, r ∈ l → r.sm) → s_Exists_l0 s l i = some (l.any fun r => under r.name s)
  | [], i, _ => rfl
  | r :: l, i, h => by
    rw [s_Exists_l0, s_Under_eq (h r (.head _)).1 hs, bnd1_mk, s_Exists_l0_eq hs l (i + 1) fun q hq => h q (.tail _ hq)]
    cases c : under r.name s <;> simp [c]

theorem s_Exists_eq {z : MZone} {s : ByteArray} (hz : smL z.l) (hs : s.size ≤ 1048576) : s_Exists z s = some (z.l.any fun r => under r.name s) := s_Exists_l0_eq hs _ _ hz.2

def hasS (s : ByteArray) (l : List ByteArray) : Bool := l.any fun x => decide (x = s)

theorem s_l9Has_l0_eq {s : ByteArray} : ∀ (l : List ByteArray) (i : Nat), s_l9Has_l0 s l i = some (hasS s l)
  | [], i => rfl
  | x :: l, i => by
    rw [s_l9Has_l0, s_l9Has_l0_eq l (i + 1)]
    by_cases c : x = s <;> simp [c, hasS]

theorem s_l9Has_eq {l : List ByteArray} {s : ByteArray} : s_l9Has l s = some (hasS s l) := s_l9Has_l0_eq _ _

theorem slices_Index_string_l0_eq {s : ByteArray} : ∀ (l : List ByteArray) (i : Nat), ∃ v, slices_Index_string_l0 s l i = some v ∧ decide (0 ≤ v) = hasS s l
  | [], i => ⟨-1, rfl, rfl⟩
  | x :: l, i => by
    rw [slices_Index_string_l0]
    by_cases c : s = x
    · subst c; exact ⟨i, by simp, by simp [hasS]⟩
    · obtain ⟨v, h1, h2⟩ := slices_Index_string_l0_eq (s := s) l (i + 1)
      have c' : ¬ (x = s) := fun h => c h.symm
      exact ⟨v, by simp [c, h1], by rw [h2]; simp [hasS, c']⟩

theorem slices_Contains_string_eq {l : List ByteArray} {s : ByteArray} : slices_Contains_string l s = some (hasS s l) := by
  obtain ⟨v, h1, h2⟩ := slices_Index_string_l0_eq (s := s) l 0
  unfold slices_Contains_string slices_Index_string
  rw [h1, bnd1_mk, h2]

/-- The cuts of a zone, as they are collected. -/
def cutP (apex : ByteArray) (out : List ByteArray) (r : Rec) : Bool := decide (r.ty = 2) && (!decide (r.name = apex) && (under r.name apex && !hasS r.name out))

def cutsL (apex : ByteArray) : List Rec → List ByteArray → List ByteArray
  | [], out => out
  | r :: l, out => bif cutP apex out r then cutsL apex l (out ++ [r.name]) else cutsL apex l out

def cutsOf (z : MZone) : List ByteArray := cutsL z.apex z.l []

theorem cutsL_len (apex : ByteArray) : ∀ (l : List Rec) (out : List ByteArray), (cutsL apex l out).length ≤ out.length + l.length
  | [], out => Nat.le_refl _
  | r :: l, out => by
    unfold cutsL
    have h1 := cutsL_len apex l (out ++ [r.name])
    have h2 := cutsL_len apex l out
    cases cutP apex out r <;> simp at h1 h2 ⊢ <;> omega

theorem cutsL_mem (apex : ByteArray) : ∀ (l : List Rec) (out : List ByteArray) (x : ByteArray), x ∈ cutsL apex l out → x ∈ out ∨ ∃ r, r ∈ l ∧ r.name = x
  | [], out, x, h => .inl h
  | r :: l, out, x, h => by
    unfold cutsL at h
    cases c : cutP apex out r with
    | true =>
      rw [c, cond_true] at h
      rcases cutsL_mem apex l _ x h with h1 | ⟨q, h1, h2⟩
      · rcases List.mem_append.1 h1 with h2 | h2
        · exact .inl h2
        · rw [List.mem_singleton] at h2; exact .inr ⟨r, .head _, h2.symm⟩
      · exact .inr ⟨q, .tail _ h1, h2⟩
    | false =>
      rw [c, cond_false] at h
      rcases cutsL_mem apex l _ x h with h1 | ⟨q, h1, h2⟩
      · exact .inl h1
      · exact .inr ⟨q, .tail _ h1, h2⟩

theorem cutsOf_sm {z : MZone} (h : z.sm) : (cutsOf z).length ≤ 1048576 ∧ ∀ x, x ∈ cutsOf z → x.size ≤ 1048576 := by
  refine ⟨?_, fun x hx => ?_⟩
  · have h1 := cutsL_len z.apex z.l []
    have h2 := h.2.1
    simp only [List.length_nil] at h1
    unfold cutsOf; omega
  · rcases cutsL_mem z.apex z.l [] x hx with h1 | ⟨r, h1, rfl⟩
    · cases h1
    · exact (h.2.2 r h1).1

theorem s_CutsOf_l0_eq {z : MZone} (hz : z.apex.size ≤ 1048576) : ∀ (l : List Rec) (out : List ByteArray) (i : Nat), (∀ r, r ∈ l → r.sm) → out.length + l.length ≤ 1048576 → s_CutsOf_l0 z l out i = some (cutsL z.apex l out)
  | [], out, i, _, _ => rfl
  | r :: l, out, i, h, hl => by
    have hr := (h r (.head _)).1
    simp only [List.length_cons] at hl
    have h1 := s_CutsOf_l0_eq hz l (out ++ [r.name]) (i + 1) (fun q hq => h q (.tail _ hq)) (by simp; omega)
    have h2 := s_CutsOf_l0_eq hz l out (i + 1) (fun q hq => h q (.tail _ hq)) (by omega)
    rw [s_CutsOf_l0, cutsL, cutP]
    by_cases c1 : r.ty = 2 <;> by_cases c2 : r.name = z.apex <;> cases c3 : under r.name z.apex <;> cases c4 : hasS r.name out <;>
      simp [s_CutsOf_j1, c1, c2, h2, s_Under_eq hr hz, c3, s_l9Has_eq, c4] <;> first | done | (rw [grd_pos (by omega)]; exact h1) | simp_all [s_Under_eq hr hz, s_l9Has_eq]

theorem s_CutsOf_eq {z : MZone} (h : z.sm) : s_CutsOf z = some (cutsOf z) := s_CutsOf_l0_eq h.1 _ _ _ h.2.2 (by simpa using h.2.1)

def cutOf (z : MZone) (s : ByteArray) : ByteArray × Bool := match (cutsOf z).find? (under s) with | some c => (c, true) | none => (⟨#[]⟩, false)

theorem s_CutOf_l0_eq {s : ByteArray} (hs : s.size ≤ 1048576) : ∀ (l : List ByteArray) (i : Nat), (∀ x, x ∈ l → x.size ≤ 1048576) → s_CutOf_l0 s l i = some (match l.find? (under s) with | some c => (c, true) | none => (⟨#[]⟩, false))
  | [], i, _ => rfl
  | x :: l, i, h => by
    rw [s_CutOf_l0, s_Under_eq hs (h x (.head _)), bnd1_mk, s_CutOf_l0_eq hs l (i + 1) fun y hy => h y (.tail _ hy)]
    cases c : under s x <;> simp [c]

theorem s_CutOf_eq {z : MZone} {s : ByteArray} (h : z.sm) (hs : s.size ≤ 1048576) : s_CutOf z s = some (cutOf z s) := by
  unfold s_CutOf; rw [s_CutsOf_eq h, bnd1_mk, s_CutOf_l0_eq hs _ _ (cutsOf_sm h).2]; rfl

def downP (m : MMsg) (apex : ByteArray) (r : Rec) : Bool := decide (r.ty = 2) && (!decide (r.name = apex) && (under r.name apex && under m.q.name r.name))

def downIn (m : MMsg) (apex : ByteArray) : ByteArray × Bool := match m.au.find? (downP m apex) with | some r => (r.name, true) | none => (⟨#[]⟩, false)

theorem i_DownIn_l0_eq {m : MMsg} {s : ByteArray} (hs : s.size ≤ 1048576) (hm : m.q.sm) : ∀ (l : List Rec) (i : Nat), (∀ r, r ∈ l → r.sm) → i_DownIn_l0 m s l i = some (match l.find? (downP m s) with | some r => (r.name, true) | none => (⟨#[]⟩, false))
  | [], i, _ => rfl
  | r :: l, i, h => by
    have hr := (h r (.head _)).1
    rw [i_DownIn_l0, i_Under_eq hr hs, bnd1_mk, i_Under_eq hm hr, bnd1_mk, List.find?_cons, downP]
    have h2 := i_DownIn_l0_eq hs hm l (i + 1) fun y hy => h y (.tail _ hy)
    by_cases c1 : r.ty = 2 <;> by_cases c2 : r.name = s <;> cases c3 : under r.name s <;> cases c4 : under m.q.name r.name <;> simp [i_DownIn_j1, c1, c2, c3, c4, h2] <;> simp_all

theorem s_DownIn_l0_eq {m : MMsg} {s : ByteArray} (hs : s.size ≤ 1048576) (hm : m.q.sm) : ∀ (l : List Rec) (i : Nat), (∀ r, r ∈ l → r.sm) → s_DownIn_l0 m s l i = some (match l.find? (downP m s) with | some r => (r.name, true) | none => (⟨#[]⟩, false))
  | [], i, _ => rfl
  | r :: l, i, h => by
    have hr := (h r (.head _)).1
    rw [s_DownIn_l0, s_Under_eq hr hs, bnd1_mk, s_Under_eq hm hr, bnd1_mk, List.find?_cons, downP]
    have h2 := s_DownIn_l0_eq hs hm l (i + 1) fun y hy => h y (.tail _ hy)
    by_cases c1 : r.ty = 2 <;> by_cases c2 : r.name = s <;> cases c3 : under r.name s <;> cases c4 : under m.q.name r.name <;> simp [s_DownIn_j1, c1, c2, c3, c4, h2] <;> simp_all

theorem i_DownIn_eq {m : MMsg} {s : ByteArray} (h : m.sm) (hs : s.size ≤ 1048576) : i_DownIn m s = some (downIn m s) := i_DownIn_l0_eq hs h.1 _ _ h.2.2.1.2

theorem s_DownIn_eq {m : MMsg} {s : ByteArray} (h : m.sm) (hs : s.size ≤ 1048576) : s_DownIn m s = some (downIn m s) := s_DownIn_l0_eq hs h.1 _ _ h.2.2.1.2

def nothingFor (m : MMsg) (apex : ByteArray) : Int := match m.au.find? (fun r => decide (r.ty = 6) && under r.name apex) with | some r => (if r.ttl < r.n then r.ttl else r.n) | none => 0

theorem i_NothingFor_l0_eq {s : ByteArray} (hs : s.size ≤ 1048576) : ∀ (l : List Rec) (i : Nat), (∀ r, r ∈ l → r.sm) → i_NothingFor_l0 s l i = some (match l.find? (fun r => decide (r.ty = 6) && under r.name s) with | some r => (if r.ttl < r.n then r.ttl else r.n) | none => 0)
  | [], i, _ => rfl
  | r :: l, i, h => by
    have hr := (h r (.head _)).1
    rw [i_NothingFor_l0, i_Under_eq hr hs, bnd1_mk, List.find?_cons]
    have h2 := i_NothingFor_l0_eq hs l (i + 1) fun y hy => h y (.tail _ hy)
    by_cases c1 : r.ty = 6 <;> cases c3 : under r.name s <;> simp [i_NothingFor_j1, c1, c3, h2]

theorem s_Least_eq {a b : Int} : s_Least a b = some (if b < a then b else a) := by
  unfold s_Least
  by_cases c : b < a <;> simp [c]

theorem s_NothingFor_l0_eq {s : ByteArray} (hs : s.size ≤ 1048576) : ∀ (l : List Rec) (i : Nat), (∀ r, r ∈ l → r.sm) → s_NothingFor_l0 s l i = some (match l.find? (fun r => decide (r.ty = 6) && under r.name s) with | some r => (if r.ttl < r.n then r.ttl else r.n) | none => 0)
  | [], i, _ => rfl
  | r :: l, i, h => by
    have hr := (h r (.head _)).1
    rw [s_NothingFor_l0, s_Under_eq hr hs, bnd1_mk, List.find?_cons]
    have h2 := s_NothingFor_l0_eq hs l (i + 1) fun y hy => h y (.tail _ hy)
    by_cases c1 : r.ty = 6 <;> cases c3 : under r.name s <;> simp [s_NothingFor_j1, c1, c3, h2, s_Least_eq]

theorem get_app {α : Type} (pre t : List α) (x : α) : (pre ++ x :: t)[pre.length]? = some x := by simp

theorem s_SetIn_eq {m : MMsg} (h : m.sm) : s_SetIn m = some (setOf m.an m.q.name m.q.ty) := by unfold s_SetIn; rw [s_SetOf_eq h.2.1]; rfl

theorem i_SetIn_eq {m : MMsg} (h : m.sm) : i_SetIn m = some (setOf m.an m.q.name m.q.ty) := by unfold i_SetIn; rw [i_SetOf_eq h.2.1]; rfl

theorem classOf_same {m : MMsg} {s : ByteArray} (h : m.sm) (hs : s.size ≤ 1048576) : ∃ v, s_ClassOf m s = some v ∧ i_ClassOf m s = some v := by
  unfold s_ClassOf i_ClassOf
  have h1 := s_DownIn_eq h hs
  have h2 := i_DownIn_eq h hs
  generalize downIn m s = x at h1 h2
  obtain ⟨x, y⟩ := x
  have h3 := s_AliasIn_eq h
  have h4 := i_AliasIn_eq h
  generalize aliasIn m = x2 at h3 h4
  obtain ⟨x2, y2⟩ := x2
  rw [h1, h2, h3, h4]
  simp only [bnd2_mk, s_ClassOf_j0, i_ClassOf_j0, s_ClassOf_j1, i_ClassOf_j1, s_ClassOf_j2, i_ClassOf_j2, s_ClassOf_j3, i_ClassOf_j3, s_ClassOf_j4, i_ClassOf_j4, s_ClassOf_j5, i_ClassOf_j5, s_SetIn_eq h, i_SetIn_eq h, bnd1_mk]
  generalize decide (m.code = 0) = b0
  generalize decide (m.code = 3) = b3
  generalize decide (m.q.ty = 5) = b5
  generalize decide ((m.an.length : Int) = 0) = ba
  generalize decide (0 < ((setOf m.an m.q.name m.q.ty).length : Int)) = bs
  generalize m.cut = bc
  generalize m.auth = bu
  cases b0 <;> cases b3 <;> cases b5 <;> cases ba <;> cases bs <;> cases bc <;> cases bu <;> cases y <;> cases y2 <;> exact ⟨_, rfl, rfl⟩

def serversIn (m : MMsg) (s : ByteArray) : List Rec := match m.au.find? (downP m s) with | some r => setOf m.au r.name 2 | none => []

theorem s_ServersIn_eq {m : MMsg} {s : ByteArray} (h : m.sm) (hs : s.size ≤ 1048576) : s_ServersIn m s = some (serversIn m s) := by
  unfold s_ServersIn serversIn
  rw [s_DownIn_eq h hs]
  unfold downIn
  cases m.au.find? (downP m s) with
  | none => rfl
  | some r => simp [s_SetOf_eq h.2.2.1]

theorem i_ServersIn_eq {m : MMsg} {s : ByteArray} (h : m.sm) (hs : s.size ≤ 1048576) : i_ServersIn m s = some (serversIn m s) := by
  unfold i_ServersIn serversIn
  rw [i_DownIn_eq h hs]
  unfold downIn
  cases m.au.find? (downP m s) with
  | none => rfl
  | some r => simp [i_SetOf_eq h.2.2.1]

theorem serversIn_sm {m : MMsg} (h : m.sm) (s : ByteArray) : smL (serversIn m s) := by
  unfold serversIn
  cases m.au.find? (downP m s) with
  | none => exact ⟨by simp, fun r hr => by cases hr⟩
  | some r => exact setOf_sm h.2.2.1 _ _

def hostP (out : List ByteArray) (r : Rec) : Bool := decide (r.ty = 2) && !hasS r.host out

def hostsL : List Rec → List ByteArray → List ByteArray
  | [], out => out
  | r :: l, out => bif hostP out r then hostsL l (out ++ [r.host]) else hostsL l out

theorem hostsL_len : ∀ (l : List Rec) (out : List ByteArray), (hostsL l out).length ≤ out.length + l.length
  | [], out => Nat.le_refl _
  | r :: l, out => by
    unfold hostsL
    have h1 := hostsL_len l (out ++ [r.host])
    have h2 := hostsL_len l out
    cases hostP out r <;> simp at h1 h2 ⊢ <;> omega

theorem hostsL_mem : ∀ (l : List Rec) (out : List ByteArray) (x : ByteArray), x ∈ hostsL l out → x ∈ out ∨ ∃ r, r ∈ l ∧ r.host = x
  | [], out, x, h => .inl h
  | r :: l, out, x, h => by
    unfold hostsL at h
    cases c : hostP out r with
    | true =>
      rw [c, cond_true] at h
      rcases hostsL_mem l _ x h with h1 | ⟨q, h1, h2⟩
      · rcases List.mem_append.1 h1 with h2 | h2
        · exact .inl h2
        · rw [List.mem_singleton] at h2; exact .inr ⟨r, .head _, h2.symm⟩
      · exact .inr ⟨q, .tail _ h1, h2⟩
    | false =>
      rw [c, cond_false] at h
      rcases hostsL_mem l _ x h with h1 | ⟨q, h1, h2⟩
      · exact .inl h1
      · exact .inr ⟨q, .tail _ h1, h2⟩

theorem hostsL_sm {l : List Rec} (h : smL l) : (hostsL l []).length ≤ 1048576 ∧ ∀ x, x ∈ hostsL l [] → x.size ≤ 1048576 := by
  refine ⟨?_, fun x hx => ?_⟩
  · have h1 := hostsL_len l []
    have h2 := h.1
    simp only [List.length_nil] at h1
    omega
  · rcases hostsL_mem l [] x hx with h1 | ⟨r, h1, rfl⟩
    · cases h1
    · exact (h.2 r h1).2.1

theorem i_Hosts_l0_eq : ∀ (l : List Rec) (out : List ByteArray) (i : Nat), out.length + l.length ≤ 1048576 → i_Hosts_l0 l out i = some (hostsL l out)
  | [], out, i, _ => rfl
  | r :: l, out, i, hl => by
    simp only [List.length_cons] at hl
    have h1 := i_Hosts_l0_eq l (out ++ [r.host]) (i + 1) (by simp; omega)
    have h2 := i_Hosts_l0_eq l out (i + 1) (by omega)
    rw [i_Hosts_l0, hostsL, hostP, slices_Contains_string_eq, bnd1_mk]
    by_cases c1 : r.ty = 2 <;> cases c4 : hasS r.host out <;> simp [i_Hosts_j1, c1, h2] <;> (rw [grd_pos (by omega)]; exact h1)

theorem s_Hosts_l0_eq : ∀ (l : List Rec) (out : List ByteArray) (i : Nat), out.length + l.length ≤ 1048576 → s_Hosts_l0 l out i = some (hostsL l out)
  | [], out, i, _ => rfl
  | r :: l, out, i, hl => by
    simp only [List.length_cons] at hl
    have h1 := s_Hosts_l0_eq l (out ++ [r.host]) (i + 1) (by simp; omega)
    have h2 := s_Hosts_l0_eq l out (i + 1) (by omega)
    rw [s_Hosts_l0, hostsL, hostP, s_l9Has_eq, bnd1_mk]
    by_cases c1 : r.ty = 2 <;> cases c4 : hasS r.host out <;> simp [s_Hosts_j1, c1, h2] <;> (rw [grd_pos (by omega)]; exact h1)

theorem i_Hosts_eq {l : List Rec} (h : smL l) : i_Hosts l = some (hostsL l []) := i_Hosts_l0_eq _ _ _ (by simpa using h.1)

theorem s_Hosts_eq {l : List Rec} (h : smL l) : s_Hosts l = some (hostsL l []) := s_Hosts_l0_eq _ _ _ (by simpa using h.1)

def helpL (ad : List Rec) (s : ByteArray) (l : List ByteArray) : List Rec := l.flatMap fun h => if under h s then setOf ad h 1 else []

theorem i_HelpersIn_l0_eq {m : MMsg} {s : ByteArray} (had : smL m.ad) (hs : s.size ≤ 1048576) : ∀ (l : List ByteArray) (out : List Rec) (i : Nat), (∀ x, x ∈ l → x.size ≤ 1048576) → out.length + l.length * 1048576 ≤ 1099511627776 → i_HelpersIn_l0 m s l out i = some (out ++ helpL m.ad s l)
  | [], out, i, _, _ => by simp [i_HelpersIn_l0, helpL]
  | x :: l, out, i, h, hl => by
    rw [List.length_cons, Nat.add_mul, Nat.one_mul] at hl
    have hq : out.length + l.length * 1048576 ≤ 1099511627776 := by generalize l.length * 1048576 = Q at hl ⊢; omega
    have h2 := setOf_len m.ad x 1
    have h3 := had.1
    have e : helpL m.ad s (x :: l) = (if under x s then setOf m.ad x 1 else []) ++ helpL m.ad s l := by simp [helpL]
    rw [i_HelpersIn_l0, i_Under_eq (h x (.head _)) hs, bnd1_mk, e]
    cases c : under x s with
    | true =>
      rw [cond_true, i_SetOf_eq had, bnd1_mk, grd_pos (by rw [List.length_append]; generalize l.length * 1048576 = Q at hl; omega), i_HelpersIn_l0_eq had hs l _ (i + 1) (fun y hy => h y (.tail _ hy)) (by rw [List.length_append]; generalize l.length * 1048576 = Q at hl ⊢; omega)]
      simp
    | false =>
      rw [cond_false, i_HelpersIn_l0_eq had hs l out (i + 1) (fun y hy => h y (.tail _ hy)) hq]
      simp

theorem s_HelpersIn_l0_eq {m : MMsg} {s : ByteArray} (had : smL m.ad) (hs : s.size ≤ 1048576) : ∀ (l : List ByteArray) (out : List Rec) (i : Nat), (∀ x, x ∈ l → x.size ≤ 1048576) → out.length + l.length * 1048576 ≤ 1099511627776 → s_HelpersIn_l0 m s l out i = some (out ++ helpL m.ad s l)
  | [], out, i, _, _ => by simp [s_HelpersIn_l0, helpL]
  | x :: l, out, i, h, hl => by
    rw [List.length_cons, Nat.add_mul, Nat.one_mul] at hl
    have hq : out.length + l.length * 1048576 ≤ 1099511627776 := by generalize l.length * 1048576 = Q at hl ⊢; omega
    have h2 := setOf_len m.ad x 1
    have h3 := had.1
    have e : helpL m.ad s (x :: l) = (if under x s then setOf m.ad x 1 else []) ++ helpL m.ad s l := by simp [helpL]
    rw [s_HelpersIn_l0, s_Under_eq (h x (.head _)) hs, bnd1_mk, e]
    cases c : under x s with
    | true =>
      rw [cond_true, s_SetOf_eq had, bnd1_mk, grd_pos (by rw [List.length_append]; generalize l.length * 1048576 = Q at hl; omega), s_HelpersIn_l0_eq had hs l _ (i + 1) (fun y hy => h y (.tail _ hy)) (by rw [List.length_append]; generalize l.length * 1048576 = Q at hl ⊢; omega)]
      simp
    | false =>
      rw [cond_false, s_HelpersIn_l0_eq had hs l out (i + 1) (fun y hy => h y (.tail _ hy)) hq]
      simp

def helpersIn (m : MMsg) (s : ByteArray) : List Rec := helpL m.ad s (hostsL (serversIn m s) [])

theorem i_HelpersIn_eq {m : MMsg} {s : ByteArray} (h : m.sm) (hs : s.size ≤ 1048576) : i_HelpersIn m s = some (helpersIn m s) := by
  have h2 := hostsL_sm (serversIn_sm h s)
  unfold i_HelpersIn
  rw [i_ServersIn_eq h hs, bnd1_mk, i_Hosts_eq (serversIn_sm h s), bnd1_mk, i_HelpersIn_l0_eq h.2.2.2 hs _ _ _ h2.2 (by have := h2.1; rw [List.length_nil]; omega)]
  rfl

theorem s_HelpersIn_eq {m : MMsg} {s : ByteArray} (h : m.sm) (hs : s.size ≤ 1048576) : s_HelpersIn m s = some (helpersIn m s) := by
  have h2 := hostsL_sm (serversIn_sm h s)
  unfold s_HelpersIn
  rw [s_ServersIn_eq h hs, bnd1_mk, s_Hosts_eq (serversIn_sm h s), bnd1_mk, s_HelpersIn_l0_eq h.2.2.2 hs _ _ _ h2.2 (by have := h2.1; rw [List.length_nil]; omega)]
  rfl

theorem rec_ext {a b : Rec} : (decide (a.name = b.name) && (decide (a.ty = b.ty) && (decide (a.ttl = b.ttl) && (decide (a.n = b.n) && (decide (a.host = b.host) && (decide (a.text = b.text) && true)))))) = decide (a = b) := by
  cases a; cases b
  simp [Bool.and_assoc]

def glueL (zl : List Rec) (l : List ByteArray) : List Rec := l.flatMap fun h => setOf zl h 1

theorem s_Glue_l0_eq {z : MZone} (hz : smL z.l) : ∀ (l : List ByteArray) (out : List Rec) (i : Nat), out.length + l.length * 1048576 ≤ 1099511627776 → s_Glue_l0 z l out i = some (out ++ glueL z.l l)
  | [], out, i, _ => by simp [s_Glue_l0, glueL]
  | x :: l, out, i, hl => by
    rw [List.length_cons, Nat.add_mul, Nat.one_mul] at hl
    have h2 := setOf_len z.l x 1
    have h3 := hz.1
    have hq : (out ++ setOf z.l x 1).length + l.length * 1048576 ≤ 1099511627776 := by rw [List.length_append]; generalize l.length * 1048576 = Q at hl ⊢; omega
    have e : glueL z.l (x :: l) = setOf z.l x 1 ++ glueL z.l l := by simp [glueL]
    rw [s_Glue_l0, s_SetOf_eq hz, bnd1_mk, grd_pos (Nat.le_trans (Nat.le_add_right _ _) hq), s_Glue_l0_eq hz l _ (i + 1) hq, e, List.append_assoc]

theorem s_Glue_eq {z : MZone} {l : List ByteArray} (hz : smL z.l) (hl : l.length ≤ 1048576) : s_Glue z l = some (glueL z.l l) := s_Glue_l0_eq hz l [] 0 (by rw [List.length_nil]; have := Nat.mul_le_mul_right 1048576 hl; omega)

def kindIn (z : MZone) (q : Quest) : Int :=
  bif !under q.name z.apex then 0 else (bif (cutOf z q.name).2 then 1 else (bif !decide (q.ty = 5) && decide (0 < ((setOf z.l q.name 5).length : Int)) then 2 else (bif decide (0 < ((setOf z.l q.name q.ty).length : Int)) then 3 else (bif z.l.any (fun r => under r.name q.name) then 4 else 5))))

theorem s_KindIn_eq {z : MZone} {q : Quest} (h : z.sm) (hq : q.sm) : s_KindIn z q = some (kindIn z q) := by
  unfold s_KindIn kindIn
  have h2 := s_CutOf_eq h hq
  generalize cutOf z q.name = x at h2
  obtain ⟨x, y⟩ := x
  rw [h2, bnd2_mk, s_Under_eq hq h.1, bnd1_mk, s_SetOf_eq h.2, bnd1_mk]
  unfold s_KindIn_j0
  rw [s_SetOf_eq h.2, bnd1_mk, s_Exists_eq h.2 hq, bnd1_mk]
  cases under q.name z.apex <;> cases y <;> cases decide (q.ty = 5) <;> cases decide (0 < ((setOf z.l q.name 5).length : Int)) <;> cases decide (0 < ((setOf z.l q.name q.ty).length : Int)) <;> cases z.l.any (fun r => under r.name q.name) <;> rfl

def answerIn (z : MZone) (q : Quest) : List Rec := bif decide (kindIn z q = 2) then setOf z.l q.name 5 else (bif decide (kindIn z q = 3) then setOf z.l q.name q.ty else [])

theorem s_AnswerIn_eq {z : MZone} {q : Quest} (h : z.sm) (hq : q.sm) : s_AnswerIn z q = some (answerIn z q) := by
  unfold s_AnswerIn answerIn
  rw [s_KindIn_eq h hq, bnd1_mk, s_SetOf_eq h.2, bnd1_mk, s_SetOf_eq h.2, bnd1_mk]
  cases decide (kindIn z q = 2) <;> cases decide (kindIn z q = 3) <;> rfl

theorem smL_nil : smL [] := ⟨Nat.zero_le _, fun r hr => by cases hr⟩

theorem answerIn_sm {z : MZone} (h : z.sm) (q : Quest) : smL (answerIn z q) := by
  unfold answerIn
  cases decide (kindIn z q = 2)
  · cases decide (kindIn z q = 3)
    · exact smL_nil
    · exact setOf_sm h.2 _ _
  · exact setOf_sm h.2 _ _

def moreIn (z : MZone) (q : Quest) : List Rec := bif decide (kindIn z q = 1) then setOf z.l (cutOf z q.name).1 2 else (bif decide (kindIn z q = 4) || decide (kindIn z q = 5) then [first (fun r => decide (r.ty = 6)) z.l] else [])

theorem s_MoreIn_eq {z : MZone} {q : Quest} (h : z.sm) (hq : q.sm) : s_MoreIn z q = some (moreIn z q) := by
  unfold s_MoreIn moreIn s_MoreIn_j0
  have h2 := s_CutOf_eq h hq
  rw [s_KindIn_eq h hq, bnd1_mk]
  generalize kindIn z q = k
  generalize cutOf z q.name = x at h2
  obtain ⟨x, y⟩ := x
  rw [h2, bnd2_mk, s_SetOf_eq h.2, bnd1_mk, s_StartOf_eq, bnd1_mk]
  cases decide (k = 1) <;> cases decide (k = 4) <;> cases decide (k = 5) <;> rfl

theorem zrec_sm : zrec.sm := ⟨Nat.zero_le _, Nat.zero_le _, Nat.zero_le _⟩

theorem first_sm {p : Rec → Bool} {l : List Rec} (h : smL l) : (first p l).sm := by
  unfold first
  cases c : l.find? p with
  | none => exact zrec_sm
  | some r => exact h.2 r (List.mem_of_find?_eq_some c)

theorem moreIn_sm {z : MZone} (h : z.sm) (q : Quest) : smL (moreIn z q) := by
  unfold moreIn
  cases decide (kindIn z q = 1)
  · cases decide (kindIn z q = 4) || decide (kindIn z q = 5)
    · exact smL_nil
    · exact ⟨by simp, fun r hr => by rw [cond_false, cond_true, List.mem_singleton] at hr; rw [hr]; exact first_sm h.2⟩
  · exact setOf_sm h.2 _ _

def helpIn (z : MZone) (q : Quest) : List Rec := bif !decide (kindIn z q = 1) then [] else glueL z.l (hostsL (moreIn z q) [])

theorem s_HelpIn_eq {z : MZone} {q : Quest} (h : z.sm) (hq : q.sm) : s_HelpIn z q = some (helpIn z q) := by
  unfold s_HelpIn helpIn
  have hm := moreIn_sm h q
  rw [s_KindIn_eq h hq, bnd1_mk, s_MoreIn_eq h hq, bnd1_mk, s_Hosts_eq hm, bnd1_mk, s_Glue_eq h.2 (hostsL_sm hm).1, bnd1_mk]
  cases decide (kindIn z q = 1) <;> rfl

theorem glueL_mem {zl : List Rec} {l : List ByteArray} {r : Rec} (h : r ∈ glueL zl l) : r ∈ zl := by
  unfold glueL at h
  obtain ⟨x, -, hx⟩ := List.mem_flatMap.1 h
  exact (List.mem_filter.1 hx).1

theorem take8 {l : List Rec} : (l.drop ((0 : Nat) : Int).toNat).take ((if 8 < (l.length : Int) then 8 else (l.length : Int)).toNat - ((0 : Nat) : Int).toNat) = l.take 8 := by
  have e : ((0 : Nat) : Int).toNat = 0 := rfl
  rw [e, List.drop_zero, Nat.sub_zero]
  by_cases c : 8 < (l.length : Int)
  · rw [if_pos c]; rfl
  · rw [if_neg c, Int.toNat_natCast, List.take_length, List.take_of_length_le (by omega)]

theorem s_l7Copy_eq {l : List Rec} (h : l.length ≤ 1099511627776) : s_l7Copy l = some l := by
  unfold s_l7Copy; rw [List.nil_append, grd_pos h]

theorem s_l11First_eq {l : List Rec} : s_l11First l = some (l.take 8) := by
  unfold s_l11First
  rw [s_Least_eq]
  simp only [bnd1_mk]
  have e : (if 8 < (l.length : Int) then 8 else (l.length : Int)) = (if (8 : Int) < (l.length : Int) then 8 else (l.length : Int)) := rfl
  rw [take8, grd_pos (by split <;> omega), s_l7Copy_eq (by rw [List.length_take]; omega), bnd1_mk]

def reply (m : MMsg) (k : Int) (a : Bool) (x y z : List Rec) : MMsg := MMsg.mk m.id true a false m.want false k m.q x y z

theorem s_ReplyTo_eq {m : MMsg} {k : Int} {a : Bool} {x y z : List Rec} (hx : x.length ≤ 1099511627776) (hy : y.length ≤ 1099511627776) (hz : z.length ≤ 1099511627776) : s_ReplyTo m k a x y z = some (reply m k a x y z) := by
  unfold s_ReplyTo; rw [s_l7Copy_eq hx, bnd1_mk, s_l7Copy_eq hy, bnd1_mk, s_l7Copy_eq hz, bnd1_mk]; rfl

def serve (z : MZone) (m : MMsg) : MMsg :=
  reply m (bif decide (kindIn z m.q = 0) then 5 else (bif decide (kindIn z m.q = 5) then 3 else 0)) (!decide (kindIn z m.q = 0) && !decide (kindIn z m.q = 1)) ((answerIn z m.q).take 8) ((moreIn z m.q).take 8) ((helpIn z m.q).take 8)

theorem take8_len {l : List Rec} : (l.take 8).length ≤ 8 := by rw [List.length_take]; omega

theorem s_Serve_eq {z : MZone} {m : MMsg} (h : z.sm) (hq : m.q.sm) : s_Serve z m = some (serve z m) := by
  have h8 : ∀ l : List Rec, (l.take 8).length ≤ 1099511627776 := fun l => Nat.le_trans take8_len (by omega)
  unfold s_Serve s_Serve_j0 s_Serve_j1 serve
  rw [s_KindIn_eq h hq, bnd1_mk]
  simp only [s_AnswerIn_eq h hq, s_MoreIn_eq h hq, s_HelpIn_eq h hq, bnd1_mk, s_l11First_eq, s_ReplyTo_eq (h8 _) (h8 _) (h8 _)]
  generalize kindIn z m.q = k
  cases decide (k = 0) <;> cases decide (k = 1) <;> cases decide (k = 5) <;> rfl

theorem fuel_lt {k : Nat} (h : k ≤ 1048576) : k < fuel0 := by unfold fuel0; omega

def Cur.inv (c : Cur) : Prop := 0 ≤ c.i ∧ c.b.length ≤ 1048576

theorem iand_255 (x : Int) : 0 ≤ iand .i64 x 255 ∧ iand .i64 x 255 ≤ 255 := by
  unfold iand
  have h : (BitVec.ofInt (IntKind.i64).bits x &&& BitVec.ofInt (IntKind.i64).bits 255).toNat ≤ 255 := by
    rw [BitVec.toNat_and]; exact Nat.le_trans Nat.and_le_right (by decide)
  generalize (BitVec.ofInt (IntKind.i64).bits x &&& BitVec.ofInt (IntKind.i64).bits 255).toNat = n at h
  rw [wrap_id (by omega)]; omega

theorem idx_ok {α : Type} {l : List α} {i : Int} (h0 : 0 ≤ i) (h1 : i < l.length) : ∃ x, idx l i = some x ∧ x ∈ l := by
  have h2 : i.toNat < l.length := by omega
  exact ⟨l[i.toNat], by unfold idx; rw [if_pos h0, List.getElem?_eq_getElem h2], List.getElem_mem h2⟩

theorem s_l1Byte_p {c : Cur} (h : c.inv) : ∃ x d, s_l1Byte c = some (x, d) ∧ d.inv ∧ 0 ≤ x ∧ x ≤ 255 := by
  obtain ⟨h1, h2⟩ := h
  unfold s_l1Byte
  by_cases p : c.i < (c.b.length : Int)
  · obtain ⟨y, hy, -⟩ := idx_ok h1 p
    rw [decide_eq_true p, cond_true, hy, bnd1_mk]
    exact ⟨_, _, rfl, ⟨by show 0 ≤ IntKind.i64.wrap (c.i + 1); rw [wrap_id (by omega)]; omega, h2⟩, (iand_255 _).1, (iand_255 _).2⟩
  · rw [decide_eq_false p, cond_false]
    exact ⟨_, _, rfl, ⟨h1, h2⟩, (iand_255 _).1, (iand_255 _).2⟩

theorem s_l1Below_p {c : Cur} {n : Int} (h : c.inv) (h1 : 0 < n) (h2 : n ≤ 256) : ∃ x d, s_l1Below c n = some (x, d) ∧ d.inv ∧ 0 ≤ x ∧ x < n := by
  obtain ⟨x, d, e, hd, hx, hy⟩ := s_l1Byte_p h
  have c1 : ¬ (n ≤ 0) := by omega
  unfold s_l1Below
  rw [decide_eq_false c1, cond_false, decide_eq_true h2, cond_true, e, bnd2_mk, grd_pos (by omega)]
  exact ⟨_, _, rfl, hd, Int.tmod_nonneg n hx, Int.tmod_lt_of_pos x h1⟩

theorem s_l1Once_p {c : Cur} {n : Int} (h : c.inv) (h1 : 0 < n) (h2 : n ≤ 256) : ∃ x d, s_l1Once c n = some (x, d) ∧ d.inv := by
  obtain ⟨x, d, e, hd, -, -⟩ := s_l1Below_p h h1 h2
  unfold s_l1Once
  rw [e, bnd2_mk]
  exact ⟨_, _, rfl, hd⟩

theorem s_l1Str_p {c : Cur} {l : List ByteArray} (h : c.inv) (h1 : 0 < l.length) (h2 : l.length ≤ 256) : ∃ x d, s_l1Str c l = some (x, d) ∧ d.inv ∧ x ∈ l := by
  obtain ⟨x, d, e, hd, hx, hy⟩ := s_l1Below_p (n := (l.length : Int)) h (by omega) (by omega)
  obtain ⟨y, e2, hm⟩ := idx_ok hx hy
  unfold s_l1Str
  rw [e, bnd2_mk, e2, bnd1_mk]
  exact ⟨_, _, rfl, hd, hm⟩

theorem s_l1Int_p {c : Cur} {l : List Int} (h : c.inv) (h1 : 0 < l.length) (h2 : l.length ≤ 256) : ∃ x d, s_l1Int c l = some (x, d) ∧ d.inv ∧ x ∈ l := by
  obtain ⟨x, d, e, hd, hx, hy⟩ := s_l1Below_p (n := (l.length : Int)) h (by omega) (by omega)
  obtain ⟨y, e2, hm⟩ := idx_ok hx hy
  unfold s_l1Int
  rw [e, bnd2_mk, e2, bnd1_mk]
  exact ⟨_, _, rfl, hd, hm⟩

theorem small_of {l : List ByteArray} {x : ByteArray} (h : (l.all fun y => Nat.ble y.size 1048576) = true) (hx : x ∈ l) : x.size ≤ 1048576 := Nat.le_of_ble_eq_true (List.all_eq_true.1 h x hx)

theorem s_l3Name_p {c : Cur} (h : c.inv) : ∃ x d, s_l3Name c = some (x, d) ∧ d.inv ∧ x.size ≤ 1048576 := by
  unfold s_l3Name
  refine (fun {l : List ByteArray} (h1 : 0 < l.length) (h2 : l.length ≤ 256) (h3 : (l.all fun y => Nat.ble y.size 1048576) = true) => ?_ : ∀ {l : List ByteArray}, 0 < l.length → l.length ≤ 256 → (l.all fun y => Nat.ble y.size 1048576) = true → ∃ x d, bnd2 (s_l1Str c l) (fun x1 x2 => some (x1, x2)) = some (x, d) ∧ d.inv ∧ x.size ≤ 1048576) (by decide) (by decide) rfl
  obtain ⟨x, d, e, hd, hm⟩ := s_l1Str_p h h1 h2
  rw [e, bnd2_mk]
  exact ⟨_, _, rfl, hd, small_of h3 hm⟩

theorem s_l5Type_p {c : Cur} (h : c.inv) : ∃ x d, s_l5Type c = some (x, d) ∧ d.inv ∧ x ∈ [1, 1, 1, 2, 2, 5, 6, 16] := by
  obtain ⟨x, d, e, hd, hm⟩ := s_l1Int_p (l := [1, 1, 1, 2, 2, 5, 6, 16]) h (by decide) (by decide)
  unfold s_l5Type
  rw [e, bnd2_mk]
  exact ⟨_, _, rfl, hd, hm⟩

theorem size_nil : (⟨#[]⟩ : ByteArray).size ≤ 1048576 := by decide

theorem s_l5Draw_j0_p {x : ByteArray} {k t : Int} {c : Cur} {b : Bool} (h : c.inv) (hx : x.size ≤ 1048576) : ∃ r d, s_l5Draw_j0 x k t c b = some (r, d) ∧ d.inv ∧ r.sm := by
  unfold s_l5Draw_j0
  obtain ⟨y, d, e, hd, hy⟩ := s_l3Name_p h
  obtain ⟨z, d2, e2, hd2, -⟩ := s_l1Int_p (l := [0, 5, 60]) hd (by decide) (by decide)
  obtain ⟨w, d3, e3, hd3, hw⟩ := s_l1Str_p (l := [(⟨#[]⟩ : ByteArray), (⟨#[104, 105]⟩ : ByteArray), (⟨#[116, 119, 101, 108, 118, 101, 98, 121, 116, 101, 115, 33]⟩ : ByteArray)]) h (by decide) (by decide)
  have hw2 := small_of rfl hw
  cases b with
  | true => rw [cond_true, e, bnd2_mk]; exact ⟨_, _, rfl, hd, hx, hy, size_nil⟩
  | false =>
    rw [cond_false]
    cases decide (k = 6) with
    | true => rw [cond_true, e, bnd2_mk, e2, bnd2_mk]; exact ⟨_, _, rfl, hd2, hx, hy, size_nil⟩
    | false =>
      rw [cond_false]
      cases decide (k = 16) with
      | true => rw [cond_true, e3, bnd2_mk]; exact ⟨_, _, rfl, hd3, hx, size_nil, hw2⟩
      | false => exact ⟨_, _, rfl, h, hx, size_nil, size_nil⟩

theorem s_l5Draw_p {c : Cur} (h : c.inv) : ∃ r d, s_l5Draw c = some (r, d) ∧ d.inv ∧ r.sm := by
  unfold s_l5Draw
  obtain ⟨x, d1, e1, h1, hx⟩ := s_l3Name_p h
  obtain ⟨k, d2, e2, h2, -⟩ := s_l5Type_p h1
  obtain ⟨t, d3, e3, h3, -⟩ := s_l1Int_p (l := [0, 1, 5, 60, 300, 100000]) h2 (by decide) (by decide)
  obtain ⟨n, d4, e4, h4, hn, hn2⟩ := s_l1Below_p (n := 9) h3 (by omega) (by omega)
  rw [e1, bnd2_mk, e2, bnd2_mk, e3, bnd2_mk]
  cases decide (k = 1) with
  | true => rw [cond_true, e4, bnd2_mk, grd_pos (by simp only [i64]; omega)]; exact ⟨_, _, rfl, h4, hx, size_nil, size_nil⟩
  | false =>
    rw [cond_false]
    cases decide (k = 2) with
    | true => rw [cond_true]; exact s_l5Draw_j0_p h3 hx
    | false => rw [cond_false]; exact s_l5Draw_j0_p h3 hx

theorem s_l1New_l1_p {b : List Int} (hb : b.length ≤ 1048576) : ∀ (k fl i : Nat) (h : Int), b.length - i = k → i ≤ b.length → k < fl → ∃ c, s_l1New_l1 b fl h (i : Int) = some c ∧ c.inv
  | 0, fl, i, h, hk, hi, hf => by
    obtain ⟨fl, rfl⟩ : ∃ q, fl = q + 1 := ⟨fl - 1, by omega⟩
    have c1 : ¬ ((i : Int) < (b.length : Int)) := by omega
    rw [s_l1New_l1, decide_eq_false c1, cond_false]
    exact ⟨_, rfl, Int.le_refl 0, hb⟩
  | k + 1, fl, i, h, hk, hi, hf => by
    obtain ⟨fl, rfl⟩ : ∃ q, fl = q + 1 := ⟨fl - 1, by omega⟩
    have c1 : (i : Int) < (b.length : Int) := by omega
    rw [s_l1New_l1, decide_eq_true c1, cond_true]
    unfold s_l1New_j2
    cases decide ((i : Int) < 4000) with
    | false => exact ⟨_, rfl, Int.le_refl 0, hb⟩
    | true =>
      obtain ⟨x, hx, -⟩ := idx_ok (l := b) (i := (i : Int)) (by omega) c1
      have e : IntKind.i64.wrap ((i : Int) + 1) = ((i + 1 : Nat) : Int) := by rw [wrap_id (by omega)]; omega
      rw [cond_true, hx, bnd1_mk, e]
      exact s_l1New_l1_p hb k fl (i + 1) _ (by omega) (by omega) (by omega)

theorem s_l1New_p {b : List Int} (hb : b.length ≤ 1048576) : ∃ c, s_l1New b = some c ∧ c.inv := s_l1New_l1_p hb b.length fuel0 0 _ (by omega) (by omega) (fuel_lt hb)

theorem w_sameRecs_l0_self : ∀ (t pre : List Rec), w_sameRecs_l0 (pre ++ t) t pre.length = some true
  | [], pre => rfl
  | r :: t, pre => by
    have h := w_sameRecs_l0_self t (pre ++ [r])
    rw [w_sameRecs_l0, idx_nat, get_app, bnd1_mk, rec_ext, decide_eq_true rfl, Bool.not_true, cond_false]
    simpa using h

theorem w_sameRecs_self {l : List Rec} : w_sameRecs l l = some true := by
  unfold w_sameRecs
  rw [decide_eq_true rfl, Bool.not_true, cond_false]
  exact w_sameRecs_l0_self l []

def MPost.sm (p : MPost) : Prop := p.apex.size ≤ 1048576

def MForest.sm (f : MForest) : Prop := (f.zones.length ≤ 1048576 ∧ ∀ z, z ∈ f.zones → z.sm) ∧ (f.posts.length ≤ 1048576 ∧ ∀ p, p ∈ f.posts → p.sm)

/-- Is the zone at b (none: below 0) less deep than a name? -/
def deeper (zs : List MZone) (b : Int) (a : ByteArray) : Bool := decide (b < 0) || (match idx zs b with | some z => decide (((labels z.apex).length : Int) < ((labels a).length : Int)) | none => false)

def deepL (zs : List MZone) (ok : ByteArray → Bool) : List MZone → Int → Nat → Int
  | [], b, _ => b
  | z :: l, b, i => deepL zs ok l (bif ok z.apex && deeper zs b z.apex then (i : Int) else b) (i + 1)

theorem s_PartsOf_eq {s : ByteArray} (h : s.size ≤ 1048576) : s_PartsOf s = some ((labels s).length : Int) := by unfold s_PartsOf; rw [s_Labels_eq h]; rfl

theorem idx_at {α : Type} {l : List α} {b : Int} (h0 : 0 ≤ b) (h : b < (l.length : Int)) : ∃ x, idx l b = some x ∧ x ∈ l := by
  have : b.toNat < l.length := by omega
  exact ⟨l[b.toNat], by simp [idx, h0, this], List.getElem_mem _⟩

def posted (f : MForest) (a : Int) (s : ByteArray) : Bool := f.posts.any fun p => decide (p.addr = a) && decide (p.apex = s)

theorem s_l12Posted_l0_eq {a : Int} {s : ByteArray} : ∀ (l : List MPost) (i : Nat), s_l12Posted_l0 a s l i = some (l.any fun p => decide (p.addr = a) && decide (p.apex = s))
  | [], i => rfl
  | p :: l, i => by
    rw [s_l12Posted_l0, List.any_cons]
    have ih := s_l12Posted_l0_eq (a := a) (s := s) l (i + 1)
    by_cases c : p.addr = a <;> by_cases c' : p.apex = s <;> simp [s_l12Posted_j1, c, c', ih]

theorem s_l12Posted_eq {f : MForest} {a : Int} {s : ByteArray} : s_l12Posted f a s = some (posted f a s) := s_l12Posted_l0_eq _ _

def zoneAt (f : MForest) (a : Int) (s : ByteArray) : Int := deepL f.zones (fun x => under s x && posted f a x) f.zones (-1) 0

theorem s_ZoneAt_l0_eq {f : MForest} {a : Int} {s : ByteArray} (hf : f.sm) (hs : s.size ≤ 1048576) : ∀ (l : List MZone) (b : Int) (i : Nat), (∀ z, z ∈ l → z.sm) → b < (f.zones.length : Int) → i + l.length ≤ f.zones.length →
    s_ZoneAt_l0 f a s l b i = some (deepL f.zones (fun x => under s x && posted f a x) l b i)
  | [], b, i, _, _, _ => rfl
  | z :: l, b, i, hz, hb, hi => by
    have hz0 : z.apex.size ≤ 1048576 := (hz z (.head _)).1
    simp only [List.length_cons] at hi
    have ih : ∀ b', b' < (f.zones.length : Int) → s_ZoneAt_l0 f a s l b' (i + 1) = some (deepL f.zones (fun x => under s x && posted f a x) l b' (i + 1)) := fun b' hb' => s_ZoneAt_l0_eq hf hs l b' (i + 1) (fun q hq => hz q (.tail _ hq)) hb' (by omega)
    rw [s_ZoneAt_l0, s_l12Posted_eq, bnd1_mk, deepL]
    have hj : ∀ c : Bool, s_ZoneAt_j1 b i (s_ZoneAt_l0 f a s l) c = some (deepL f.zones (fun x => under s x && posted f a x) l (bif c then (i : Int) else b) (i + 1)) := fun c => by
      unfold s_ZoneAt_j1; cases c
      · exact ih b hb
      · exact ih i (by omega)
    cases posted f a z.apex with
    | false => simp only [Bool.and_false, Bool.false_and]; exact hj false
    | true =>
      simp only [cond_true, Bool.and_true]
      rw [s_Under_eq hs hz0, bnd1_mk]
      cases under s z.apex with
      | false => exact hj false
      | true =>
        simp only [cond_true, Bool.true_and]
        by_cases c : b < 0
        · simp only [c, decide_true, cond_true, deeper, Bool.true_or]; exact hj true
        · obtain ⟨y, hy, hm⟩ := idx_at (l := f.zones) (b := b) (by omega) hb
          simp only [c, decide_false, cond_false, deeper, Bool.false_or, hy, s_PartsOf_eq hz0, s_PartsOf_eq (hf.1.2 y hm).1, bnd1_mk]
          exact hj _

theorem s_ZoneAt_eq {f : MForest} {a : Int} {s : ByteArray} (hf : f.sm) (hs : s.size ≤ 1048576) : s_ZoneAt f a s = some (zoneAt f a s) :=
  s_ZoneAt_l0_eq hf hs _ _ _ hf.1.2 (by omega) (by omega)

theorem deepL_lt {zs : List MZone} {ok : ByteArray → Bool} : ∀ (l : List MZone) (b : Int) (i : Nat), b < (zs.length : Int) → i + l.length ≤ zs.length → deepL zs ok l b i < (zs.length : Int)
  | [], b, i, hb, _ => hb
  | z :: l, b, i, hb, hi => by
    simp only [List.length_cons] at hi
    unfold deepL
    refine deepL_lt l _ _ ?_ (by omega)
    cases (ok z.apex && deeper zs b z.apex)
    · exact hb
    · show (i : Int) < _; omega

/-- The zone that a place tells, if it tells one. -/
def zoneNo (f : MForest) (k : Int) : Option MZone := if k < 0 then none else idx f.zones k

theorem zoneNo_cases {f : MForest} {k : Int} (h : k < (f.zones.length : Int)) : (k < 0 ∧ zoneNo f k = none) ∨ (¬ k < 0 ∧ ∃ z, idx f.zones k = some z ∧ zoneNo f k = some z ∧ z ∈ f.zones) := by
  by_cases c : k < 0
  · exact .inl ⟨c, by simp [zoneNo, c]⟩
  · obtain ⟨z, h1, h2⟩ := idx_at (l := f.zones) (b := k) (by omega) h
    exact .inr ⟨c, z, h1, by simp [zoneNo, c, h1], h2⟩

theorem zoneAt_at (f : MForest) (a : Int) (s : ByteArray) : (zoneAt f a s < 0 ∧ zoneNo f (zoneAt f a s) = none) ∨ (¬ zoneAt f a s < 0 ∧ ∃ z, idx f.zones (zoneAt f a s) = some z ∧ zoneNo f (zoneAt f a s) = some z ∧ z ∈ f.zones) := by
  cases h : f.zones with
  | nil => left; unfold zoneAt; rw [h]; exact ⟨by show (-1 : Int) < 0; decide, rfl⟩
  | cons z l =>
    rw [← h]
    exact zoneNo_cases (by unfold zoneAt; exact deepL_lt _ _ _ (by rw [h]; simp; omega) (by omega))

theorem bL_irr : ∀ x : List UInt8, Op.bytesLess x x = false
  | [] => rfl
  | a :: x => by simp [Op.bytesLess, bL_irr x, UInt8.lt_irrefl]

theorem bL_trans : ∀ x y z : List UInt8, Op.bytesLess x y = true → Op.bytesLess y z = true → Op.bytesLess x z = true
  | [], [], _, h, _ => by simp [Op.bytesLess] at h
  | [], _ :: _, [], _, h => by simp [Op.bytesLess] at h
  | [], _ :: _, _ :: _, _, _ => rfl
  | _ :: _, [], _, h, _ => by simp [Op.bytesLess] at h
  | _ :: _, _ :: _, [], _, h => by simp [Op.bytesLess] at h
  | a :: x, b :: y, c :: z, h, k => by
    simp only [Op.bytesLess, Bool.or_eq_true, decide_eq_true_eq, Bool.and_eq_true, beq_iff_eq] at h k ⊢
    rcases h with h | ⟨h, h'⟩ <;> rcases k with k | ⟨k, k'⟩
    · exact .inl (UInt8.lt_trans h k)
    · exact .inl (k ▸ h)
    · exact .inl (h ▸ k)
    · exact .inr ⟨h.trans k, bL_trans x y z h' k'⟩

def bl (a b : ByteArray) : Bool := Op.bytesLess (bts a) (bts b)

theorem bl_eq {a b : ByteArray} : Op.bytesLess a.toList b.toList = bl a b := by unfold bl bts; rw [ByteArray.toList_eq, ByteArray.toList_eq]

theorem bl_irr (a : ByteArray) : bl a a = false := bL_irr _

theorem bl_trans (a b c : ByteArray) (h : bl a b = true) (k : bl b c = true) : bl a c = true := bL_trans _ _ _ h k

def lexN : List ByteArray → List ByteArray → Bool
  | _, [] => false
  | [], _ :: _ => true
  | x :: xs, y :: ys => if x = y then lexN xs ys else bl x y

theorem lexN_irr : ∀ x : List ByteArray, lexN x x = false
  | [] => rfl
  | a :: x => by simp [lexN, lexN_irr x]

theorem lexN_trans : ∀ x y z : List ByteArray, lexN x y = true → lexN y z = true → lexN x z = true
  | [], [], _, h, _ => by simp [lexN] at h
  | [], _ :: _, [], _, h => by simp [lexN] at h
  | [], _ :: _, _ :: _, _, _ => rfl
  | _ :: _, [], _, h, _ => by simp [lexN] at h
  | _ :: _, _ :: _, [], _, h => by simp [lexN] at h
  | a :: x, b :: y, c :: z, h, k => by
    unfold lexN at h k ⊢
    by_cases e1 : a = b
    · subst e1
      rw [if_pos rfl] at h
      by_cases e2 : a = c
      · rw [if_pos e2] at k ⊢; exact lexN_trans x y z h k
      · rw [if_neg e2] at k ⊢; exact k
    · rw [if_neg e1] at h
      by_cases e2 : b = c
      · subst e2; rw [if_neg e1]; exact h
      · rw [if_neg e2] at k
        have h3 := bl_trans a b c h k
        by_cases e3 : a = c
        · subst e3; rw [bl_irr] at h3; cases h3
        · rw [if_neg e3]; exact h3

def lessN (a b : ByteArray) : Bool := lexN (labels a).reverse (labels b).reverse

theorem lessN_irr (a : ByteArray) : lessN a a = false := lexN_irr _

theorem lessN_trans (a b c : ByteArray) (h : lessN a b = true) (k : lessN b c = true) : lessN a c = true := lexN_trans _ _ _ h k

theorem s_LessName_l1_eq (x y : List ByteArray) (hx : x.length ≤ 2097152) (hy : y.length ≤ 2097152) (fl : Nat) : ∀ (k i : Nat), x.length - i = k → i ≤ x.length → i ≤ y.length → k + 1 < fl → s_LessName_l1 x y fl ((i : Int) + 1) = some (lexN (x.reverse.drop i) (y.reverse.drop i)) := by
  induction fl with
  | zero => intro k i _ _ _ h; omega
  | succ fl IH =>
    intro k i hk hi hi' hfl
    rw [s_LessName_l1]
    unfold s_LessName_j2 s_LessName_j0
    by_cases c1 : i = x.length
    · have e1 : x.reverse.drop i = [] := List.drop_eq_nil_of_le (by simp; omega)
      have h1 : ¬ ((i : Int) + 1 ≤ (x.length : Int)) := by omega
      simp only [h1, decide_false, cond_false, e1]
      by_cases c2 : i = y.length
      · have e2 : y.reverse.drop i = [] := List.drop_eq_nil_of_le (by simp; omega)
        have h2 : ¬ ((x.length : Int) < (y.length : Int)) := by omega
        simp [e2, lexN, h2]
      · have hlt : i < y.reverse.length := by simp; omega
        rw [List.drop_eq_getElem_cons hlt]
        have h2 : ((x.length : Int) < (y.length : Int)) := by omega
        simp [lexN, h2]
    · have h1 : ((i : Int) + 1 ≤ (x.length : Int)) := by omega
      have hltx : i < x.reverse.length := by simp; omega
      simp only [h1, decide_true, cond_true]
      by_cases c2 : i = y.length
      · have h2 : ¬ ((i : Int) + 1 ≤ (y.length : Int)) := by omega
        have e2 : y.reverse.drop i = [] := List.drop_eq_nil_of_le (by simp; omega)
        have h3 : ¬ ((x.length : Int) < (y.length : Int)) := by omega
        have e3 : ∀ l : List ByteArray, lexN l [] = false := fun l => by cases l <;> rfl
        simp [h2, e2, h3, e3]
      · have h2 : ((i : Int) + 1 ≤ (y.length : Int)) := by omega
        have hlty : i < y.reverse.length := by simp; omega
        have ix : idx x ((x.length : Int) - ((i : Int) + 1)) = some x.reverse[i] := by
          rw [show (x.length : Int) - ((i : Int) + 1) = (x.length : Int) - ((i + 1 : Nat) : Int) by omega, idx_sub (by omega), List.getElem?_eq_getElem (by omega), List.getElem_reverse]
          congr 1; congr 1; omega
        have iy : idx y ((y.length : Int) - ((i : Int) + 1)) = some y.reverse[i] := by
          rw [show (y.length : Int) - ((i : Int) + 1) = (y.length : Int) - ((i + 1 : Nat) : Int) by omega, idx_sub (by omega), List.getElem?_eq_getElem (by omega), List.getElem_reverse]
          congr 1; congr 1; omega
        simp only [h2, decide_true, cond_true, ix, iy, bnd1_mk]
        rw [grd_pos (by simp only [i64]; omega), grd_pos (by simp only [i64]; omega), List.drop_eq_getElem_cons hltx, List.drop_eq_getElem_cons hlty, lexN, bl_eq]
        by_cases ce : x.reverse[i] = y.reverse[i]
        · have ih := IH (k - 1) (i + 1) (by omega) (by omega) (by omega) (by omega)
          have e9 : (i : Int) + 1 + 1 = ((i + 1 : Nat) : Int) + 1 := by omega
          have g9 : i64 ((i : Int) + 1 + 1) := by constructor <;> omega
          simp only [ce, decide_true, Bool.not_true, cond_false, if_true, grd_pos g9]
          rw [e9]; exact ih
        · simp only [ce, decide_false, Bool.not_false, cond_true, if_false]

theorem s_LessName_eq {a b : ByteArray} (ha : a.size ≤ 1048576) (hb : b.size ≤ 1048576) : s_LessName a b = some (lessN a b) := by
  have h1 := labels_len a
  have h2 := labels_len b
  unfold s_LessName
  rw [s_Labels_eq ha, bnd1_mk, s_Labels_eq hb, bnd1_mk]
  have := s_LessName_l1_eq (labels a) (labels b) (by omega) (by omega) fuel0 _ 0 rfl (Nat.zero_le _) (Nat.zero_le _) (by unfold fuel0; omega)
  unfold lessN
  simpa using this

def lx {α : Type} [DecidableEq α] (lt : α → α → Bool) (x y : α) (r : Bool) : Bool := if x = y then r else lt x y

def lti (a b : Int) : Bool := decide (a < b)

def lessR (a b : Rec) : Bool := lx lessN a.name b.name (lx lti a.ty b.ty (lx lti a.n b.n (lx lessN a.host b.host (lx bl a.text b.text (lti a.ttl b.ttl)))))

theorem s_LessRecord_eq {a b : Rec} (ha : a.sm) (hb : b.sm) : s_LessRecord a b = some (lessR a b) := by
  unfold s_LessRecord lessR lx lti
  rw [s_LessName_eq ha.1 hb.1, s_LessName_eq ha.2.1 hb.2.1, bl_eq]
  by_cases c1 : a.name = b.name <;> by_cases c2 : a.ty = b.ty <;> by_cases c3 : a.n = b.n <;> by_cases c4 : a.host = b.host <;> by_cases c5 : a.text = b.text <;> simp [c1, c2, c3, c4, c5]

def lt (a b : Rec) : Prop := lessR a b = true

theorem name_or {a b : Rec} (h : lt a b) : a.name = b.name ∨ lessN a.name b.name = true := by
  unfold lt lessR lx at h
  by_cases c : a.name = b.name
  · exact .inl c
  · rw [if_neg c] at h; exact .inr h

theorem between {a b c : Rec} (h : lt a b) (k : lt b c) (e : a.name = c.name) (e' : a.ty = c.ty) : b.name = a.name ∧ b.ty = a.ty := by
  have h1 : a.name = b.name := by
    rcases name_or h with h1 | h1
    · exact h1
    · rcases name_or k with h2 | h2
      · rw [e, h2, lessN_irr] at h1; cases h1
      · have := lessN_trans _ _ _ h1 h2
        rw [e, lessN_irr] at this; cases this
  refine ⟨h1.symm, ?_⟩
  unfold lt lessR lx at h k
  rw [if_pos h1] at h
  rw [if_pos (h1.symm.trans e)] at k
  by_cases c1 : a.ty = b.ty
  · exact c1.symm
  · rw [if_neg c1] at h
    by_cases c2 : b.ty = c.ty
    · exact c2.trans e'.symm
    · rw [if_neg c2] at k
      simp only [lti, decide_eq_true_eq] at h k; omega

/-- How long an entry may last from now on. -/
def left (til now : Int) : Int := if til - now ≤ 100000 then til - now else 100000

theorem s_l7Quest_p {c : Cur} (h : c.inv) : ∃ x d, s_l7Quest c = some (x, d) ∧ d.inv ∧ x.sm := by
  obtain ⟨s, d1, e1, h1, hs⟩ := s_l3Name_p h
  obtain ⟨k, d2, e2, h2, -⟩ := s_l5Type_p h1
  unfold s_l7Quest
  rw [e1, bnd2_mk, e2, bnd2_mk]
  exact ⟨_, _, rfl, h2, hs⟩

theorem s_SortRecords_j1_eq {v : List Rec} {i : Nat} {e : Rec} {K : List Rec → Nat → Option (List Rec)} {j : Nat} (hj : j ≤ v.length) (hv : v.length ≤ 1000) : s_SortRecords_j1 v i e K (j : Int) = K ((v.take j ++ [e]) ++ v.drop j) (i + 1) := by
  have e1 : (v.drop (0 + ((0 : Nat) : Int).toNat)).take ((j : Int).toNat - ((0 : Nat) : Int).toNat) = v.take j := by simp
  have e2 : (v.drop (0 + (j : Int).toNat)).take ((v.length : Int).toNat - (j : Int).toNat) = v.drop j := by
    rw [Int.toNat_natCast, Int.toNat_natCast, Nat.zero_add]; exact List.take_of_length_le (by simp)
  have l1 : (v.take j).length = j := by rw [List.length_take]; omega
  have l2 : (v.drop j).length = v.length - j := List.length_drop
  unfold s_SortRecords_j1
  rw [e1, e2, List.nil_append, grd_pos (by omega), grd_pos (by omega), grd_pos (by simp only [List.length_append, List.length_singleton]; omega), grd_pos (by omega), grd_pos (by simp only [List.length_append, List.length_singleton]; omega)]

theorem s_SortRecords_l2_p {v : List Rec} {i : Nat} {e : Rec} {K : List Rec → Nat → Option (List Rec)} (hv : v.length ≤ 1000) (hs : ∀ r, r ∈ v → r.sm) (he : e.sm) : ∀ (k fl : Nat), k ≤ v.length → k < fl → ∃ j, j ≤ v.length ∧ s_SortRecords_l2 v i e K fl (k : Int) = K ((v.take j ++ [e]) ++ v.drop j) (i + 1)
  | 0, fl, hk, hf => by
    obtain ⟨fl, rfl⟩ : ∃ q, fl = q + 1 := ⟨fl - 1, by omega⟩
    refine ⟨0, by omega, ?_⟩
    rw [s_SortRecords_l2]
    unfold s_SortRecords_j3
    exact s_SortRecords_j1_eq (j := 0) (by omega) hv
  | k + 1, fl, hk, hf => by
    obtain ⟨fl, rfl⟩ : ∃ q, fl = q + 1 := ⟨fl - 1, by omega⟩
    have c1 : (0 : Int) < ((k + 1 : Nat) : Int) := by omega
    have e9 : ((k + 1 : Nat) : Int) - 1 = (k : Int) := by omega
    obtain ⟨x, e1, hx⟩ := idx_ok (l := v) (i := (k : Int)) (by omega) (by omega)
    rw [s_SortRecords_l2, decide_eq_true c1, cond_true, e9, grd_pos (by simp only [i64]; omega), e1, bnd1_mk, s_LessRecord_eq he (hs x hx), bnd1_mk]
    unfold s_SortRecords_j3
    cases lessR e x with
    | true =>
      obtain ⟨j, h1, h2⟩ := s_SortRecords_l2_p (i := i) (K := K) hv hs he k fl (by omega) (by omega)
      refine ⟨j, h1, ?_⟩
      rw [cond_true, e9, grd_pos (by simp only [i64]; omega)]
      exact h2
    | false => exact ⟨k + 1, hk, s_SortRecords_j1_eq hk hv⟩

theorem s_SortRecords_l0_p : ∀ (l v : List Rec) (i : Nat), (∀ r, r ∈ v → r.sm) → (∀ r, r ∈ l → r.sm) → v.length + l.length ≤ 1000 → ∃ m, s_SortRecords_l0 l v i = some m ∧ m.length = v.length + l.length ∧ ∀ r, r ∈ m → r ∈ v ∨ r ∈ l
  | [], v, i, _, _, _ => ⟨v, rfl, rfl, fun r hr => .inl hr⟩
  | e :: l, v, i, hv, hl, hn => by
    simp only [List.length_cons] at hn
    obtain ⟨j, h1, h2⟩ := s_SortRecords_l2_p (i := i) (K := s_SortRecords_l0 l) (by omega) hv (hl e (.head _)) v.length fuel0 (Nat.le_refl _) (fuel_lt (by omega))
    have hm : ∀ r, r ∈ (v.take j ++ [e]) ++ v.drop j → r ∈ v ∨ r = e := fun r hr => by
      rcases List.mem_append.1 hr with hr | hr
      · rcases List.mem_append.1 hr with hr | hr
        · exact .inl (List.mem_of_mem_take hr)
        · exact .inr (List.mem_singleton.1 hr)
      · exact .inl (List.mem_of_mem_drop hr)
    have hlen : ((v.take j ++ [e]) ++ v.drop j).length = v.length + 1 := by
      simp only [List.length_append, List.length_singleton, List.length_take, List.length_drop]; omega
    obtain ⟨m, g1, g2, g3⟩ := s_SortRecords_l0_p l ((v.take j ++ [e]) ++ v.drop j) (i + 1) (fun r hr => by
      rcases hm r hr with h | rfl
      · exact hv r h
      · exact hl r (.head _)) (fun r hr => hl r (.tail _ hr)) (by omega)
    refine ⟨m, by rw [s_SortRecords_l0, h2]; exact g1, by rw [g2, hlen, List.length_cons]; omega, fun r hr => ?_⟩
    rcases g3 r hr with h | h
    · rcases hm r h with h | rfl
      · exact .inl h
      · exact .inr (.head _)
    · exact .inr (.tail _ h)

theorem s_SortRecords_p {l : List Rec} (hl : l.length ≤ 1000) (hs : ∀ r, r ∈ l → r.sm) : ∃ m, s_SortRecords l = some m ∧ m.length = l.length ∧ ∀ r, r ∈ m → r ∈ l := by
  obtain ⟨m, h1, h2, h3⟩ := s_SortRecords_l0_p l [] 0 (fun r hr => by cases hr) hs (by simpa using hl)
  refine ⟨m, h1, by simpa using h2, fun r hr => ?_⟩
  rcases h3 r hr with h | h
  · cases h
  · exact h

/-- A small record of a small time. -/
def Rec.smt (r : Rec) : Prop := r.sm ∧ 0 ≤ r.ttl ∧ r.ttl ≤ 1000

theorem s_l10Uniq_l0_p : ∀ (l v : List Rec) (i : Nat), (∀ r, r ∈ v → r.smt) → (∀ r, r ∈ l → r.smt) → v.length + l.length ≤ 1000 → ∃ m, s_l10Uniq_l0 l v i = some m ∧ m.length ≤ v.length + l.length ∧ (0 < v.length ∨ 0 < l.length → 0 < m.length) ∧ ∀ r, r ∈ m → r.smt
  | [], v, i, hv, _, _ => ⟨v, rfl, Nat.le_refl _, fun h => by rcases h with h | h; exact h; simp at h, hv⟩
  | e :: l, v, i, hv, hl, hn => by
    simp only [List.length_cons] at hn
    have he := hl e (.head _)
    have hlt : ∀ r, r ∈ l → r.smt := fun r hr => hl r (.tail _ hr)
    have go : ∀ v' : List Rec, (∀ r, r ∈ v' → r.smt) → v'.length ≤ v.length + 1 → 0 < v'.length → ∃ m, s_l10Uniq_l0 l v' (i + 1) = some m ∧ m.length ≤ v.length + (e :: l).length ∧ (0 < v.length ∨ 0 < (e :: l).length → 0 < m.length) ∧ ∀ r, r ∈ m → r.smt := fun v' h1 h2 h3 => by
      obtain ⟨m, g1, g2, g3, g4⟩ := s_l10Uniq_l0_p l v' (i + 1) h1 hlt (by omega)
      exact ⟨m, g1, by rw [List.length_cons]; omega, fun _ => g3 (.inl h3), g4⟩
    have j1 : ∀ t : Int, 0 ≤ t → t ≤ 1000 → ∃ m, s_l10Uniq_j1 v i e (s_l10Uniq_l0 l) t = some m ∧ m.length ≤ v.length + (e :: l).length ∧ (0 < v.length ∨ 0 < (e :: l).length → 0 < m.length) ∧ ∀ r, r ∈ m → r.smt := fun t t0 t1 => by
      unfold s_l10Uniq_j1
      rw [grd_pos (by rw [List.length_append, List.length_singleton]; omega)]
      refine go _ (fun r hr => ?_) (by rw [List.length_append, List.length_singleton]; omega) (by rw [List.length_append, List.length_singleton]; omega)
      rcases List.mem_append.1 hr with hr | hr
      · exact hv r hr
      · rw [List.mem_singleton] at hr; rw [hr]; exact ⟨⟨he.1.1, he.1.2.1, he.1.2.2⟩, t0, t1⟩
    have j2 : ∀ b : Bool, (b = true → 0 < v.length) → ∃ m, s_l10Uniq_j2 v i e (s_l10Uniq_l0 l) b = some m ∧ m.length ≤ v.length + (e :: l).length ∧ (0 < v.length ∨ 0 < (e :: l).length → 0 < m.length) ∧ ∀ r, r ∈ m → r.smt := fun b hb => by
      unfold s_l10Uniq_j2
      cases b with
      | false => exact j1 _ he.2.1 he.2.2
      | true =>
        have h0 := hb rfl
        obtain ⟨x, e1, hx⟩ := idx_ok (l := v) (i := (v.length : Int) - 1) (by omega) (by omega)
        rw [cond_true, grd_pos (by simp only [i64]; omega), e1, bnd1_mk, grd_pos (by simp only [i64]; omega)]
        generalize (decide (x.name = e.name) && (decide (x.ty = e.ty) && (decide (x.ttl = x.ttl) && (decide (x.n = e.n) && (decide (x.host = e.host) && (decide (x.text = e.text) && true)))))) = b
        cases b with
        | true => exact go v hv (by omega) h0
        | false => exact j1 _ (hv x hx).2.1 (hv x hx).2.2
    rw [s_l10Uniq_l0]
    cases hd : decide (0 < (v.length : Int)) with
    | false => exact j2 false (by simp)
    | true =>
      have h0 : 0 < v.length := by have := of_decide_eq_true hd; omega
      obtain ⟨x, e1, hx⟩ := idx_ok (l := v) (i := (v.length : Int) - 1) (by omega) (by omega)
      rw [cond_true, grd_pos (by simp only [i64]; omega), e1, bnd1_mk, grd_pos (by simp only [i64]; omega)]
      cases decide (x.name = e.name) with
      | true => exact j2 _ (fun _ => h0)
      | false => exact j2 false (by simp)

theorem s_l10Uniq_p {l : List Rec} (hl : l.length ≤ 1000) (hs : ∀ r, r ∈ l → r.smt) : ∃ m, s_l10Uniq l = some m ∧ m.length ≤ l.length ∧ (0 < l.length → 0 < m.length) ∧ ∀ r, r ∈ m → r.smt := by
  obtain ⟨a, h1, h2, h3⟩ := s_SortRecords_p hl fun r hr => (hs r hr).1
  obtain ⟨m, g1, g2, g3, g4⟩ := s_l10Uniq_l0_p a [] 0 (fun r hr => by cases hr) (fun r hr => hs r (h3 r hr)) (by simp; omega)
  unfold s_l10Uniq
  rw [h1, bnd1_mk]
  exact ⟨m, g1, by simpa [h2] using g2, fun h => g3 (.inr (by omega)), g4⟩

theorem smt_of {a b c : ByteArray} {k t n : Int} (h1 : a.size ≤ 1048576) (h2 : b.size ≤ 1048576) (h3 : c.size ≤ 1048576) (t0 : 0 ≤ t) (t1 : t ≤ 1000) : (Rec.mk a k t n b c).smt := ⟨⟨h1, h2, h3⟩, t0, t1⟩

theorem setOf_mem {l : List Rec} {s : ByteArray} {k : Int} {r : Rec} (h : r ∈ setOf l s k) : r ∈ l ∧ r.name = s := by
  unfold setOf at h
  obtain ⟨h1, h2⟩ := List.mem_filter.1 h
  simp only [Bool.and_eq_true, decide_eq_true_eq] at h2
  exact ⟨h1, h2.1⟩

theorem helpIn_mem {z : MZone} {q : Quest} {r : Rec} (h : r ∈ helpIn z q) : r ∈ z.l := by
  unfold helpIn at h
  revert h
  cases decide (kindIn z q = 1) <;> intro h <;> simp only [Bool.not_true, Bool.not_false, cond_true, cond_false] at h
  · cases h
  · exact glueL_mem h

/-- Small records of small times, not many. -/
def rl (l : List Rec) (n : Nat) : Prop := l.length ≤ n ∧ ∀ r, r ∈ l → r.smt

theorem rl_nil : rl [] 0 := ⟨Nat.le_refl _, fun r hr => by cases hr⟩

theorem rl_cons {r : Rec} {l : List Rec} {n : Nat} (h : r.smt) (t : rl l n) : rl (r :: l) (n + 1) := ⟨by have := t.1; simp; omega, fun q hq => by
  rcases List.mem_cons.1 hq with rfl | hq
  · exact h
  · exact t.2 q hq⟩

theorem rl_app {a b : List Rec} {m n : Nat} (h : rl a m) (k : rl b n) : rl (a ++ b) (m + n) := ⟨by have := h.1; have := k.1; simp; omega, fun q hq => by
  rcases List.mem_append.1 hq with hq | hq
  · exact h.2 q hq
  · exact k.2 q hq⟩

theorem rl_le {a : List Rec} {m n : Nat} (h : rl a m) (hn : m ≤ n) : rl a n := ⟨Nat.le_trans h.1 hn, h.2⟩

theorem rl_g {a b : List Rec} {m n : Nat} (h : rl a m) (k : rl b n) (hn : m + n ≤ 1000) : (a ++ b).length ≤ 1099511627776 := by have := (rl_app h k).1; omega

theorem uniq_rl {l : List Rec} {n : Nat} (h : rl l n) (hn : n ≤ 1000) : ∃ m, s_l10Uniq l = some m ∧ rl m n := by
  obtain ⟨m, h1, h2, -, h3⟩ := s_l10Uniq_p (l := l) (Nat.le_trans h.1 hn) h.2
  exact ⟨m, h1, Nat.le_trans h2 h.1, h3⟩

/-- Small posts, not many. -/
def pl (l : List MPost) (n : Nat) : Prop := l.length ≤ n ∧ ∀ p, p ∈ l → p.sm

theorem pl_nil : pl [] 0 := ⟨Nat.le_refl _, fun r hr => by cases hr⟩

theorem pl_cons {r : MPost} {l : List MPost} {n : Nat} (h : r.sm) (t : pl l n) : pl (r :: l) (n + 1) := ⟨by have := t.1; simp; omega, fun q hq => by
  rcases List.mem_cons.1 hq with rfl | hq
  · exact h
  · exact t.2 q hq⟩

theorem pl_app {a b : List MPost} {m n : Nat} (h : pl a m) (k : pl b n) : pl (a ++ b) (m + n) := ⟨by have := h.1; have := k.1; simp; omega, fun q hq => by
  rcases List.mem_append.1 hq with hq | hq
  · exact h.2 q hq
  · exact k.2 q hq⟩

theorem pl_le {a : List MPost} {m n : Nat} (h : pl a m) (hn : m ≤ n) : pl a n := ⟨Nat.le_trans h.1 hn, h.2⟩

/-- A drawn forest. -/
def MForest.df (f : MForest) : Prop := f.zones.length ≤ 4 ∧ (∀ z, z ∈ f.zones → z.apex.size ≤ 1048576 ∧ rl z.l 30) ∧ pl f.posts 30

theorem df_sm {f : MForest} (h : f.df) : f.sm := ⟨⟨Nat.le_trans h.1 (by decide), fun z hz => ⟨(h.2.1 z hz).1, Nat.le_trans (h.2.1 z hz).2.1 (by decide), fun r hr => ((h.2.1 z hz).2.2 r hr).1⟩⟩, Nat.le_trans h.2.2.1 (by decide), h.2.2.2⟩

theorem s_l12Draw_j4_p {t : Int} (t0 : 0 ≤ t) (t1 : t ≤ 1000) {a b e : List Rec} {c : Cur} {x1 x2 x3 x4 x5 x6 x7 x8 x9 y : Rec} {p : List MPost} (hc : c.inv) (ha : rl a 10) (hb : rl b 10) (he : rl e 10)
    (h1 : x1.smt) (h2 : x2.smt) (h3 : x3.smt) (h4 : x4.smt) (h5 : x5.smt) (h6 : x6.smt) (h7 : x7.smt) (h8 : x8.smt) (h9 : x9.smt) (hy : y.smt) (hp : pl p 30) :
    ∃ f d, s_l12Draw_j4 t a c.b c.i c.h b e x1 x2 x3 x4 x5 x6 x7 x8 x9 y p = some (f, d) ∧ d.inv ∧ f.df := by
  obtain ⟨u1, g1, k1⟩ := uniq_rl (rl_app hb (rl_cons h3 rl_nil)) (by decide)
  obtain ⟨u2, g2, k2⟩ := uniq_rl (rl_app ha (rl_cons h9 (rl_cons hy rl_nil))) (by decide)
  obtain ⟨u3, g3, k3⟩ := uniq_rl (rl_app he (rl_cons h1 (rl_cons h2 (rl_cons (smt_of (a := ⟨#[97, 108, 46, 111, 114, 103]⟩) (b := ⟨#[119, 119, 119, 46, 101, 120, 46, 99, 111, 109]⟩) (c := ⟨#[]⟩) (k := 5) (t := t) (n := 0) (by decide) (by decide) (by decide) t0 t1) (rl_cons (smt_of (a := ⟨#[108, 111, 46, 111, 114, 103]⟩) (b := ⟨#[108, 111, 46, 99, 111, 109]⟩) (c := ⟨#[]⟩) (k := 5) (t := t) (n := 0) (by decide) (by decide) (by decide) t0 t1) rl_nil))))) (by decide)
  obtain ⟨u4, g4, k4⟩ := uniq_rl (rl_cons h4 (rl_cons h5 (rl_cons h6 (rl_cons h7 (rl_cons h8 rl_nil))))) (by decide)
  unfold s_l12Draw_j4
  rw [g1, bnd1_mk, g2, bnd1_mk, g3, bnd1_mk, g4, bnd1_mk]
  refine ⟨_, _, rfl, hc, by show (4 : Nat) ≤ 4; decide, fun z hz => ?_, hp⟩
  simp only [List.mem_cons, List.not_mem_nil, or_false] at hz
  rcases hz with rfl | rfl | rfl | rfl
  · exact ⟨by show (⟨#[]⟩ : ByteArray).size ≤ _; decide, rl_le k1 (by decide)⟩
  · exact ⟨by show (⟨#[99, 111, 109]⟩ : ByteArray).size ≤ _; decide, rl_le k2 (by decide)⟩
  · exact ⟨by show (⟨#[111, 114, 103]⟩ : ByteArray).size ≤ _; decide, rl_le k3 (by decide)⟩
  · exact ⟨by show (⟨#[101, 120, 46, 99, 111, 109]⟩ : ByteArray).size ≤ _; decide, rl_le k4 (by decide)⟩

theorem s_l12Draw_j3k_p {t : Int} (t0 : 0 ≤ t) (t1 : t ≤ 1000) {a b e : List Rec} {c : Cur} {p : List MPost} {s : ByteArray} (hc : c.inv) (ha : rl a 8) (hb : rl b 8) (he : rl e 4) (hp : pl p 30) (hs : s.size ≤ 1048576) :
    ∃ f d, s_l12Draw_j4 t a c.b c.i c.h b e (Rec.mk (⟨#[111, 114, 103]⟩ : ByteArray) 2 t 0 s (⟨#[]⟩ : ByteArray)) (Rec.mk (⟨#[119, 119, 119, 46, 97, 46, 111, 114, 103]⟩ : ByteArray) 1 t 9 (⟨#[]⟩ : ByteArray) (⟨#[]⟩ : ByteArray)) (Rec.mk (⟨#[111, 114, 103]⟩ : ByteArray) 2 t 0 s (⟨#[]⟩ : ByteArray)) (Rec.mk (⟨#[101, 120, 46, 99, 111, 109]⟩ : ByteArray) 6 t (IntKind.i64.wrap (Int.tdiv t 2)) (⟨#[]⟩ : ByteArray) (⟨#[]⟩ : ByteArray)) (Rec.mk (⟨#[101, 120, 46, 99, 111, 109]⟩ : ByteArray) 2 t 0 (⟨#[110, 115, 46, 101, 120, 46, 99, 111, 109]⟩ : ByteArray) (⟨#[]⟩ : ByteArray)) (Rec.mk (⟨#[110, 115, 46, 101, 120, 46, 99, 111, 109]⟩ : ByteArray) 1 t 3 (⟨#[]⟩ : ByteArray) (⟨#[]⟩ : ByteArray)) (Rec.mk (⟨#[119, 119, 119, 46, 101, 120, 46, 99, 111, 109]⟩ : ByteArray) 1 t 7 (⟨#[]⟩ : ByteArray) (⟨#[]⟩ : ByteArray)) (Rec.mk (⟨#[119, 119, 119, 46, 101, 120, 46, 99, 111, 109]⟩ : ByteArray) 1 t 8 (⟨#[]⟩ : ByteArray) (⟨#[]⟩ : ByteArray)) (Rec.mk (⟨#[101, 120, 46, 99, 111, 109]⟩ : ByteArray) 2 t 0 (⟨#[110, 115, 46, 101, 120, 46, 99, 111, 109]⟩ : ByteArray) (⟨#[]⟩ : ByteArray)) (Rec.mk (⟨#[110, 115, 46, 101, 120, 46, 99, 111, 109]⟩ : ByteArray) 1 t 3 (⟨#[]⟩ : ByteArray) (⟨#[]⟩ : ByteArray)) p = some (f, d) ∧ d.inv ∧ f.df := by
  have sm : ∀ {a b c : ByteArray} {k n : Int}, a.size ≤ 1048576 → b.size ≤ 1048576 → c.size ≤ 1048576 → (Rec.mk a k t n b c).smt := fun h1 h2 h3 => smt_of h1 h2 h3 t0 t1
  exact s_l12Draw_j4_p t0 t1 hc (rl_le ha (by decide)) (rl_le hb (by decide)) (rl_le he (by decide)) (sm (by decide) hs (by decide)) (sm (by decide) (by decide) (by decide)) (sm (by decide) hs (by decide)) (sm (by decide) (by decide) (by decide)) (sm (by decide) (by decide) (by decide)) (sm (by decide) (by decide) (by decide)) (sm (by decide) (by decide) (by decide)) (sm (by decide) (by decide) (by decide)) (sm (by decide) (by decide) (by decide)) (sm (by decide) (by decide) (by decide)) hp

theorem posts_two {p : List MPost} (hp : pl p 8) (k : Int) : pl ((p ++ [MPost.mk 3 (⟨#[101, 120, 46, 99, 111, 109]⟩ : ByteArray)]) ++ [MPost.mk k (⟨#[111, 114, 103]⟩ : ByteArray)]) 30 :=
  pl_le (pl_app (pl_app hp (pl_cons (by show (⟨#[101, 120, 46, 99, 111, 109]⟩ : ByteArray).size ≤ _; decide) pl_nil)) (pl_cons (by show (⟨#[111, 114, 103]⟩ : ByteArray).size ≤ _; decide) pl_nil)) (by decide)

theorem s_l12Draw_j3_p {t : Int} (t0 : 0 ≤ t) (t1 : t ≤ 1000) {a b e : List Rec} {c : Cur} {p : List MPost} {s : ByteArray} (hc : c.inv) (ha : rl a 8) (hb : rl b 8) (he : rl e 4) (hp : pl p 8) (hs : s.size ≤ 1048576) :
    ∃ f d, s_l12Draw_j3 t p a c.b c.i c.h b e s = some (f, d) ∧ d.inv ∧ f.df := by
  have sm : ∀ {a b c : ByteArray} {k n : Int}, a.size ≤ 1048576 → b.size ≤ 1048576 → c.size ≤ 1048576 → (Rec.mk a k t n b c).smt := fun h1 h2 h3 => smt_of h1 h2 h3 t0 t1
  unfold s_l12Draw_j3 s_l10Server s_l10Addr s_l10Start
  rw [bnd1_mk, bnd1_mk, grd_pos (by have := he.1; simp only [List.length_append, List.length_cons, List.length_nil]; omega), bnd1_mk, grd_pos (by have := hb.1; simp only [List.length_append, List.length_cons, List.length_nil]; omega), bnd1_mk, bnd1_mk, bnd1_mk, bnd1_mk, bnd1_mk, bnd1_mk, bnd1_mk, grd_pos (by have := ha.1; simp only [List.length_append, List.length_cons, List.length_nil]; omega), grd_pos (by have := (posts_two hp 4).1; simp only [List.length_append] at this ⊢; omega)]
  cases decide (s = (⟨#[110, 115, 46, 111, 114, 103]⟩ : ByteArray)) with
  | true => rw [cond_true, grd_pos (by have := (posts_two hp 4).1; omega)]; exact s_l12Draw_j3k_p t0 t1 hc ha hb he (posts_two hp 4) hs
  | false => rw [cond_false, grd_pos (by have := (posts_two hp 3).1; omega)]; exact s_l12Draw_j3k_p t0 t1 hc ha hb he (posts_two hp 3) hs

theorem s_l12Draw_j2_p {t : Int} (t0 : 0 ≤ t) (t1 : t ≤ 1000) {a b : List Rec} {c : Cur} {p : List MPost} (hc : c.inv) (ha : rl a 8) (hb : rl b 6) (hp : pl p 8) : ∃ f d, s_l12Draw_j2 t b p c.b c.i c.h a = some (f, d) ∧ d.inv ∧ f.df := by
  have sm : ∀ {a b c : ByteArray} {k n : Int}, a.size ≤ 1048576 → b.size ≤ 1048576 → c.size ≤ 1048576 → (Rec.mk a k t n b c).smt := fun h1 h2 h3 => smt_of h1 h2 h3 t0 t1
  obtain ⟨o, d1, e1, h1⟩ := s_l1Once_p (n := 2) hc (by omega) (by omega)
  have q1 : (Rec.mk (⟨#[111, 114, 103]⟩ : ByteArray) 6 t (IntKind.i64.wrap (Int.tdiv t 2)) (⟨#[]⟩ : ByteArray) (⟨#[]⟩ : ByteArray)).smt := sm (by decide) (by decide) (by decide)
  have q2 : (Rec.mk (⟨#[110, 115, 46, 111, 114, 103]⟩ : ByteArray) 1 t 4 (⟨#[]⟩ : ByteArray) (⟨#[]⟩ : ByteArray)).smt := sm (by decide) (by decide) (by decide)
  unfold s_l12Draw_j2 s_l10Start s_l10Addr
  rw [bnd1_mk, show Cur.mk c.b c.i c.h = c from rfl, e1, bnd2_mk]
  cases o with
  | true => rw [cond_true]; exact s_l12Draw_j3_p t0 t1 h1 ha (rl_le hb (by decide)) (rl_le (rl_cons q1 rl_nil) (by decide)) hp (by decide)
  | false =>
    rw [cond_false, bnd1_mk, grd_pos (by simp), bnd1_mk, grd_pos (rl_g hb (rl_cons q2 rl_nil) (by decide))]
    exact s_l12Draw_j3_p t0 t1 h1 ha (rl_le (rl_app hb (rl_cons q2 rl_nil)) (by decide)) (rl_le (rl_app (rl_cons q1 rl_nil) (rl_cons q2 rl_nil)) (by decide)) hp (by decide)

theorem s_l12Draw_j1_p {t : Int} (t0 : 0 ≤ t) (t1 : t ≤ 1000) {a b : List Rec} {c : Cur} {p : List MPost} (hc : c.inv) (ha : rl a 6) (hb : rl b 6) (hp : pl p 8) : ∃ f d, s_l12Draw_j1 t b p c.b c.i c.h a = some (f, d) ∧ d.inv ∧ f.df := by
  have sm : ∀ {a b c : ByteArray} {k n : Int}, a.size ≤ 1048576 → b.size ≤ 1048576 → c.size ≤ 1048576 → (Rec.mk a k t n b c).smt := fun h1 h2 h3 => smt_of h1 h2 h3 t0 t1
  unfold s_l12Draw_j1
  rw [show Cur.mk c.b c.i c.h = c from rfl]
  obtain ⟨s, d0, e0, h0, hs⟩ := s_l1Str_p (c := c) (l := [(⟨#[119, 119, 119, 46, 101, 120, 46, 99, 111, 109]⟩ : ByteArray), (⟨#[119, 119, 119, 46, 97, 46, 111, 114, 103]⟩ : ByteArray), (⟨#[108, 111, 46, 111, 114, 103]⟩ : ByteArray), (⟨#[110, 111, 46, 99, 111, 109]⟩ : ByteArray), (⟨#[97, 108, 46, 111, 114, 103]⟩ : ByteArray)]) hc (by decide) (by decide)
  have hss : s.size ≤ 1048576 := by
    simp only [List.mem_cons, List.not_mem_nil, or_false] at hs
    rcases hs with rfl | rfl | rfl | rfl | rfl <;> decide
  have q1 : (Rec.mk (⟨#[97, 108, 46, 99, 111, 109]⟩ : ByteArray) 5 t 0 s (⟨#[]⟩ : ByteArray)).smt := sm (by decide) hss (by decide)
  have q2 : (Rec.mk (⟨#[108, 111, 46, 99, 111, 109]⟩ : ByteArray) 5 t 0 (⟨#[108, 111, 46, 111, 114, 103]⟩ : ByteArray) (⟨#[]⟩ : ByteArray)).smt := sm (by decide) (by decide) (by decide)
  obtain ⟨o, d1, e1, h1⟩ := s_l1Once_p (n := 3) h0 (by omega) (by omega)
  rw [e0, bnd2_mk, grd_pos (rl_g ha (rl_cons q1 rl_nil) (by decide)), e1, bnd2_mk]
  cases o with
  | true =>
    rw [cond_true, grd_pos (rl_g (rl_app ha (rl_cons q1 rl_nil)) (rl_cons q2 rl_nil) (by decide))]
    exact s_l12Draw_j2_p t0 t1 h1 (rl_le (rl_app (rl_app ha (rl_cons q1 rl_nil)) (rl_cons q2 rl_nil)) (by decide)) hb hp
  | false => exact s_l12Draw_j2_p t0 t1 h1 (rl_le (rl_app ha (rl_cons q1 rl_nil)) (by decide)) hb hp

theorem s_l12Draw_j0_p {t : Int} (t0 : 0 ≤ t) (t1 : t ≤ 1000) {a b : List Rec} {c : Cur} {p : List MPost} (hc : c.inv) (ha : rl a 4) (hb : rl b 6) (hp : pl p 8) : ∃ f d, s_l12Draw_j0 t c.b c.i c.h b a p = some (f, d) ∧ d.inv ∧ f.df := by
  have sm : ∀ {a b c : ByteArray} {k n : Int}, a.size ≤ 1048576 → b.size ≤ 1048576 → c.size ≤ 1048576 → (Rec.mk a k t n b c).smt := fun h1 h2 h3 => smt_of h1 h2 h3 t0 t1
  obtain ⟨o, d1, e1, h1⟩ := s_l1Once_p (n := 3) hc (by omega) (by omega)
  have q1 : (Rec.mk (⟨#[116, 46, 99, 111, 109]⟩ : ByteArray) 16 t 0 (⟨#[]⟩ : ByteArray) (⟨#[104, 105]⟩ : ByteArray)).smt := sm (by decide) (by decide) (by decide)
  have q2 : (Rec.mk (⟨#[98, 46, 116, 46, 99, 111, 109]⟩ : ByteArray) 1 t 40 (⟨#[]⟩ : ByteArray) (⟨#[]⟩ : ByteArray)).smt := sm (by decide) (by decide) (by decide)
  unfold s_l12Draw_j0 s_l10Addr
  rw [show Cur.mk c.b c.i c.h = c from rfl, e1, bnd2_mk]
  cases o with
  | true =>
    rw [cond_true, bnd1_mk, grd_pos (rl_g ha (rl_cons q1 (rl_cons q2 rl_nil)) (by decide))]
    exact s_l12Draw_j1_p t0 t1 h1 (rl_le (rl_app ha (rl_cons q1 (rl_cons q2 rl_nil))) (by decide)) hb hp
  | false => exact s_l12Draw_j1_p t0 t1 h1 (rl_le ha (by decide)) hb hp

theorem s_l12Draw_p {c : Cur} (hc : c.inv) : ∃ f d, s_l12Draw c = some (f, d) ∧ d.inv ∧ f.df := by
  obtain ⟨t, d1, e1, h1, ht⟩ := s_l1Int_p (l := [3, 20, 300]) hc (by decide) (by decide)
  obtain ⟨t0, t1⟩ : 0 ≤ t ∧ t ≤ 1000 := by
    simp only [List.mem_cons, List.not_mem_nil, or_false] at ht
    omega
  have sm : ∀ {a b c : ByteArray} {k n : Int}, a.size ≤ 1048576 → b.size ≤ 1048576 → c.size ≤ 1048576 → (Rec.mk a k t n b c).smt := fun h1 h2 h3 => smt_of h1 h2 h3 t0 t1
  obtain ⟨o, d2, e2, h2⟩ := s_l1Once_p (n := 2) h1 (by omega) (by omega)
  have q1 : (Rec.mk (⟨#[]⟩ : ByteArray) 6 t (IntKind.i64.wrap (Int.tdiv t 2)) (⟨#[]⟩ : ByteArray) (⟨#[]⟩ : ByteArray)).smt := sm (by decide) (by decide) (by decide)
  have q2 : (Rec.mk (⟨#[]⟩ : ByteArray) 2 t 0 (⟨#[110, 115, 46, 99, 111, 109]⟩ : ByteArray) (⟨#[]⟩ : ByteArray)).smt := sm (by decide) (by decide) (by decide)
  have q3 : (Rec.mk (⟨#[99, 111, 109]⟩ : ByteArray) 2 t 0 (⟨#[110, 115, 46, 99, 111, 109]⟩ : ByteArray) (⟨#[]⟩ : ByteArray)).smt := sm (by decide) (by decide) (by decide)
  have q4 : ∀ n, (Rec.mk (⟨#[110, 115, 46, 99, 111, 109]⟩ : ByteArray) 1 t n (⟨#[]⟩ : ByteArray) (⟨#[]⟩ : ByteArray)).smt := fun n => sm (by decide) (by decide) (by decide)
  have q5 : (Rec.mk (⟨#[99, 111, 109]⟩ : ByteArray) 6 t (IntKind.i64.wrap (Int.tdiv t 2)) (⟨#[]⟩ : ByteArray) (⟨#[]⟩ : ByteArray)).smt := sm (by decide) (by decide) (by decide)
  have q6 : (Rec.mk (⟨#[99, 111, 109]⟩ : ByteArray) 2 t 0 (⟨#[110, 115, 46, 99, 111, 109]⟩ : ByteArray) (⟨#[]⟩ : ByteArray)).smt := sm (by decide) (by decide) (by decide)
  have p0 : ∀ k, (MPost.mk k (⟨#[]⟩ : ByteArray)).sm := fun k => by show (⟨#[]⟩ : ByteArray).size ≤ _; decide
  have p1 : ∀ k, (MPost.mk k (⟨#[99, 111, 109]⟩ : ByteArray)).sm := fun k => by show (⟨#[99, 111, 109]⟩ : ByteArray).size ≤ _; decide
  have pp : ∀ k, pl [MPost.mk k (⟨#[]⟩ : ByteArray), MPost.mk k (⟨#[99, 111, 109]⟩ : ByteArray)] 2 := fun k => pl_cons (p0 k) (pl_cons (p1 k) pl_nil)
  unfold s_l12Draw s_l10Start s_l10Server s_l10Addr
  rw [e1, bnd2_mk]
  simp only [bnd1_mk]
  rw [e2, bnd2_mk]
  cases o with
  | true =>
    rw [cond_true, grd_pos (by simp), grd_pos (by simp), grd_pos (by simp)]
    exact s_l12Draw_j0_p t0 t1 h2 (rl_app (rl_cons q5 (rl_cons q6 (rl_cons (q4 2) rl_nil))) (rl_cons (q4 12) rl_nil)) (rl_le (rl_app (rl_cons q1 (rl_cons q2 (rl_cons q3 (rl_cons (q4 2) rl_nil)))) (rl_cons (q4 12) rl_nil)) (by decide)) (pl_le (pl_app (pp 2) (pp 12)) (by decide))
  | false => exact s_l12Draw_j0_p t0 t1 h2 (rl_le (rl_cons q5 (rl_cons q6 (rl_cons (q4 2) rl_nil))) (by decide)) (rl_le (rl_cons q1 (rl_cons q2 (rl_cons q3 (rl_cons (q4 2) rl_nil)))) (by decide)) (pl_le (pp 2) (by decide))

theorem str_bnd {α : Type} {c : Cur} {l : List ByteArray} {k : ByteArray → Cur → Option α} {P : α → Prop} (h : c.inv) (h1 : Nat.blt 0 l.length = true) (h2 : Nat.ble l.length 256 = true) (h3 : (l.all fun y => Nat.ble y.size 1048576) = true) (hk : ∀ x d, d.inv → x.size ≤ 1048576 → ∃ r, k x d = some r ∧ P r) : ∃ r, bnd2 (s_l1Str c l) k = some r ∧ P r := by
  obtain ⟨x, d, e, hd, hm⟩ := s_l1Str_p h (by simpa [Nat.blt_eq] using h1) (Nat.le_of_ble_eq_true h2)
  rw [e, bnd2_mk]
  exact hk x d hd (small_of h3 hm)

theorem int_bnd {α : Type} {c : Cur} {l : List Int} {k : Int → Cur → Option α} {P : α → Prop} (h : c.inv) (h1 : Nat.blt 0 l.length = true) (h2 : Nat.ble l.length 256 = true) (hk : ∀ x d, d.inv → x ∈ l → ∃ r, k x d = some r ∧ P r) : ∃ r, bnd2 (s_l1Int c l) k = some r ∧ P r := by
  obtain ⟨x, d, e, hd, hm⟩ := s_l1Int_p h (by simpa [Nat.blt_eq] using h1) (Nat.le_of_ble_eq_true h2)
  rw [e, bnd2_mk]
  exact hk x d hd hm

theorem below_bnd {α : Type} {c : Cur} {n : Int} {k : Int → Cur → Option α} {P : α → Prop} (h : c.inv) (h1 : 0 < n) (h2 : n ≤ 256) (hk : ∀ x d, d.inv → 0 ≤ x → x < n → ∃ r, k x d = some r ∧ P r) : ∃ r, bnd2 (s_l1Below c n) k = some r ∧ P r := by
  obtain ⟨x, d, e, hd, h3, h4⟩ := s_l1Below_p h h1 h2
  rw [e, bnd2_mk]
  exact hk x d hd h3 h4

theorem once_bnd {α : Type} {c : Cur} {n : Int} {k : Bool → Cur → Option α} {P : α → Prop} (h : c.inv) (h1 : 0 < n) (h2 : n ≤ 256) (hk : ∀ x d, d.inv → ∃ r, k x d = some r ∧ P r) : ∃ r, bnd2 (s_l1Once c n) k = some r ∧ P r := by
  obtain ⟨x, d, e, hd⟩ := s_l1Once_p h h1 h2
  rw [e, bnd2_mk]
  exact hk x d hd

theorem rec_bnd {α : Type} {c : Cur} {k : Rec → Cur → Option α} {P : α → Prop} (h : c.inv) (hk : ∀ x d, d.inv → x.sm → ∃ r, k x d = some r ∧ P r) : ∃ r, bnd2 (s_l5Draw c) k = some r ∧ P r := by
  obtain ⟨x, d, e, hd, hx⟩ := s_l5Draw_p h
  rw [e, bnd2_mk]
  exact hk x d hd hx

theorem bif_p {α : Type} {b : Bool} {x y : Option α} {P : α → Prop} (h1 : b = true → ∃ r, x = some r ∧ P r) (h2 : b = false → ∃ r, y = some r ∧ P r) : ∃ r, (bif b then x else y) = some r ∧ P r := by
  cases b with
  | true => exact h1 rfl
  | false => exact h2 rfl

theorem below_big {α : Type} {c : Cur} {n : Int} {k : Int → Cur → Option α} {P : α → Prop} (h : c.inv) (h1 : 256 < n) (hk : ∀ x d, d.inv → 0 ≤ x → x < n → ∃ r, k x d = some r ∧ P r) : ∃ r, bnd2 (s_l1Below c n) k = some r ∧ P r := by
  obtain ⟨x, d, e, hd, hx, hy⟩ := s_l1Byte_p h
  obtain ⟨x2, d2, e2, hd2, hx2, hy2⟩ := s_l1Byte_p hd
  obtain ⟨x3, d3, e3, hd3, hx3, hy3⟩ := s_l1Byte_p hd2
  unfold s_l1Below
  rw [decide_eq_false (by omega), cond_false, decide_eq_false (by omega), cond_false, e, bnd2_mk, e2, bnd2_mk, e3, bnd2_mk, grd_pos (by simp only [i64]; omega), grd_pos (by simp only [i64]; omega), grd_pos (by simp only [i64]; omega), grd_pos (by simp only [i64]; omega), grd_pos (by omega), bnd2_mk]
  exact hk _ _ hd3 (Int.tmod_nonneg n (by omega)) (Int.tmod_lt_of_pos _ (by omega))

/-- Small records, not many. -/
def sl (l : List Rec) (n : Nat) : Prop := l.length ≤ n ∧ ∀ r, r ∈ l → r.sm

theorem sl_app {a b : List Rec} {m n : Nat} (h : sl a m) (k : sl b n) : sl (a ++ b) (m + n) := ⟨by have := h.1; have := k.1; simp; omega, fun q hq => by
  rcases List.mem_append.1 hq with hq | hq
  · exact h.2 q hq
  · exact k.2 q hq⟩

theorem sl_one {r : Rec} (h : r.sm) : sl [r] 1 := ⟨by simp, fun q hq => by rw [List.mem_singleton] at hq; rw [hq]; exact h⟩

theorem sl_le {a : List Rec} {m n : Nat} (h : sl a m) (hn : m ≤ n) : sl a n := ⟨Nat.le_trans h.1 hn, h.2⟩

theorem sl_g {a b : List Rec} {m n : Nat} (h : sl a m) (k : sl b n) (hn : m + n ≤ 1000) : (a ++ b).length ≤ 1099511627776 := by have := (sl_app h k).1; omega

/-- A drawn message. -/
def MMsg.dm (m : MMsg) (n : Nat) : Prop := m.q.sm ∧ sl m.an n ∧ sl m.au n ∧ sl m.ad n

theorem dm_sm {m : MMsg} {n : Nat} (h : m.dm n) (hn : n ≤ 1000) : m.sm := ⟨h.1, ⟨by have := h.2.1.1; omega, h.2.1.2⟩, ⟨by have := h.2.2.1.1; omega, h.2.2.1.2⟩, ⟨by have := h.2.2.2.1; omega, h.2.2.2.2⟩⟩

theorem s_l5List_l0_p : ∀ (k fl : Nat) (c : Cur) (l : List Rec) (n : Nat), c.inv → k < fl → sl l n → n + k ≤ 1000 → ∃ r, s_l5List_l0 fl c.b c.i c.h l (k : Int) = some r ∧ r.2.inv ∧ sl r.1 (n + k)
  | 0, fl, c, l, n, h, hf, hl, hn => by
    obtain ⟨fl, rfl⟩ : ∃ q, fl = q + 1 := ⟨fl - 1, by omega⟩
    rw [s_l5List_l0]
    exact ⟨_, rfl, h, hl⟩
  | k + 1, fl, c, l, n, h, hf, hl, hn => by
    obtain ⟨fl, rfl⟩ : ∃ q, fl = q + 1 := ⟨fl - 1, by omega⟩
    have e : ((k + 1 : Nat) : Int) - 1 = (k : Int) := by omega
    rw [s_l5List_l0, decide_eq_true (by omega), cond_true, show Cur.mk c.b c.i c.h = c from rfl]
    refine rec_bnd h fun x d hd hx => ?_
    rw [grd_pos (sl_g hl (sl_one hx) (by omega)), grd_pos (by simp only [i64]; omega), e]
    have := s_l5List_l0_p k fl d (l ++ [x]) (n + 1) hd (by omega) (sl_app hl (sl_one hx)) (by omega)
    rw [show n + (k + 1) = n + 1 + k by omega]
    exact this

theorem s_l5List_p {c : Cur} {n : Nat} (h : c.inv) (hn : n ≤ 100) : ∃ r, s_l5List c (n : Int) = some r ∧ r.2.inv ∧ sl r.1 n := by
  unfold s_l5List
  rw [grd_pos (by simp only [i64]; omega)]
  refine below_bnd h (by omega) (by omega) fun x d hd h0 h1 => ?_
  obtain ⟨k, rfl⟩ : ∃ k : Nat, x = (k : Int) := ⟨x.toNat, by omega⟩
  obtain ⟨r, g1, g2, g3⟩ := s_l5List_l0_p k fuel0 d [] 0 hd (fuel_lt (by omega)) ⟨Nat.le_refl _, fun r hr => by cases hr⟩ (by omega)
  exact ⟨r, g1, g2, sl_le g3 (by omega)⟩

theorem list_bnd {α : Type} {c : Cur} {n : Nat} {k : List Rec → Cur → Option α} {P : α → Prop} (h : c.inv) (hn : n ≤ 100) (hk : ∀ x d, d.inv → sl x n → ∃ r, k x d = some r ∧ P r) : ∃ r, bnd2 (s_l5List c (n : Int)) k = some r ∧ P r := by
  obtain ⟨⟨x, d⟩, e, hd, hx⟩ := s_l5List_p h hn
  rw [e, bnd2_mk]
  exact hk x d hd hx

theorem quest_bnd {α : Type} {c : Cur} {k : Quest → Cur → Option α} {P : α → Prop} (h : c.inv) (hk : ∀ x d, d.inv → x.sm → ∃ r, k x d = some r ∧ P r) : ∃ r, bnd2 (s_l7Quest c) k = some r ∧ P r := by
  obtain ⟨x, d, e, hd, hx⟩ := s_l7Quest_p h
  rw [e, bnd2_mk]
  exact hk x d hd hx

theorem s_l3Any_p {c : Cur} (h : c.inv) : ∃ r, s_l3Any c = some r ∧ r.2.inv ∧ r.1.size ≤ 1048576 := by
  unfold s_l3Any
  refine once_bnd h (by omega) (by omega) fun o d hd => bif_p (fun _ => str_bnd hd rfl rfl rfl fun x d hd hx => ⟨_, rfl, hd, hx⟩) fun _ => ?_
  obtain ⟨x, d2, e, hd2, hx⟩ := s_l3Name_p hd
  rw [e, bnd2_mk]
  exact ⟨_, rfl, hd2, hx⟩

theorem any_bnd {α : Type} {c : Cur} {k : ByteArray → Cur → Option α} {P : α → Prop} (h : c.inv) (hk : ∀ x d, d.inv → x.size ≤ 1048576 → ∃ r, k x d = some r ∧ P r) : ∃ r, bnd2 (s_l3Any c) k = some r ∧ P r := by
  obtain ⟨⟨x, d⟩, e, hd, hx⟩ := s_l3Any_p h
  rw [e, bnd2_mk]
  exact hk x d hd hx

theorem s_l5Any_p {c : Cur} (h : c.inv) : ∃ r, s_l5Any c = some r ∧ r.2.inv ∧ r.1.sm := by
  unfold s_l5Any
  refine rec_bnd h fun x d hd hx => below_bnd hd (by omega) (by omega) fun k d hd _ _ => ?_
  refine bif_p (fun _ => any_bnd hd fun s d hd hs => ⟨_, rfl, hd, hs, hx.2.1, hx.2.2⟩) fun _ => ?_
  refine bif_p (fun _ => int_bnd hd rfl rfl fun s d hd hs => ⟨_, rfl, hd, hx⟩) fun _ => ?_
  refine bif_p (fun _ => int_bnd hd rfl rfl fun s d hd hs => ⟨_, rfl, hd, hx⟩) fun _ => ?_
  refine bif_p (fun _ => int_bnd hd rfl rfl fun s d hd hs => ⟨_, rfl, hd, hx⟩) fun _ => ?_
  refine bif_p (fun _ => any_bnd hd fun s d hd hs => ⟨_, rfl, hd, hx.1, hs, hx.2.2⟩) fun _ => ?_
  exact bif_p (fun _ => str_bnd hd rfl rfl rfl fun s d hd hs => ⟨_, rfl, hd, hx.1, hx.2.1, hs⟩) fun _ => ⟨_, rfl, hd, hx⟩

theorem s_l7Draw_p {c : Cur} (h : c.inv) : ∃ r, s_l7Draw c = some r ∧ r.2.inv ∧ r.1.dm 3 := by
  unfold s_l7Draw s_AskMsg
  refine below_big h (by omega) fun i d hd _ _ => quest_bnd hd fun q d hd hq => ?_
  rw [bnd1_mk]
  have z0 : sl ([] : List Rec) 3 := ⟨Nat.zero_le _, fun r hr => by cases hr⟩
  refine once_bnd hd (by omega) (by omega) fun o d hd => bif_p (fun _ => ⟨_, rfl, hd, hq, z0, z0, z0⟩) fun _ => ?_
  refine once_bnd hd (by omega) (by omega) fun o1 d hd => once_bnd hd (by omega) (by omega) fun o2 d hd => once_bnd hd (by omega) (by omega) fun o3 d hd => int_bnd hd rfl rfl fun k d hd _ => ?_
  exact list_bnd (n := 3) hd (by omega) fun a d hd ha => list_bnd (n := 2) hd (by omega) fun b d hd hb => list_bnd (n := 2) hd (by omega) fun e d hd he => ⟨_, rfl, hd, hq, ha, sl_le hb (by omega), sl_le he (by omega)⟩

theorem s_l7Any_l0_p {m : MMsg} (hm : m.q.sm ∧ sl m.an 3 ∧ sl m.au 3) : ∀ (k fl : Nat) (c : Cur) (l : List Rec), c.inv → l.length + k = 9 → k < fl → (∀ r, r ∈ l → r.sm) → ∃ r, s_l7Any_l0 m fl c.b c.i c.h l = some r ∧ r.2.inv ∧ r.1.dm 9
  | 0, fl, c, l, h, hn, hf, hl => by
    obtain ⟨fl, rfl⟩ : ∃ q, fl = q + 1 := ⟨fl - 1, by omega⟩
    rw [s_l7Any_l0, decide_eq_false (by omega), cond_false]
    exact ⟨_, rfl, h, hm.1, sl_le hm.2.1 (by omega), sl_le hm.2.2 (by omega), by show l.length ≤ 9; omega, hl⟩
  | k + 1, fl, c, l, h, hn, hf, hl => by
    obtain ⟨fl, rfl⟩ : ∃ q, fl = q + 1 := ⟨fl - 1, by omega⟩
    rw [s_l7Any_l0, decide_eq_true (by omega), cond_true, show Cur.mk c.b c.i c.h = c from rfl]
    refine rec_bnd h fun x d hd hx => ?_
    rw [grd_pos (by rw [List.length_append, List.length_singleton]; omega)]
    refine s_l7Any_l0_p hm k fl d (l ++ [x]) hd (by rw [List.length_append, List.length_singleton]; omega) (by omega) (fun r hr => ?_)
    rcases List.mem_append.1 hr with hr | hr
    · exact hl r hr
    · rw [List.mem_singleton] at hr; rw [hr]; exact hx

theorem s_l7Any_p {c : Cur} (h : c.inv) : ∃ r, s_l7Any c = some r ∧ r.2.inv ∧ r.1.dm 9 := by
  unfold s_l7Any
  obtain ⟨⟨m, d⟩, e, hd, hq, h1, h2, h3⟩ := s_l7Draw_p h
  rw [e, bnd2_mk]
  replace hd : d.inv := hd
  replace hq : m.q.sm := hq
  replace h1 : sl m.an 3 := h1
  replace h2 : sl m.au 3 := h2
  replace h3 : sl m.ad 3 := h3
  have l1 : sl m.an 9 := sl_le h1 (by omega)
  have l2 : sl m.au 9 := sl_le h2 (by omega)
  have l3 : sl m.ad 9 := sl_le h3 (by omega)
  refine below_bnd hd (by omega) (by omega) fun k d hd _ _ => ?_
  refine bif_p (fun _ => int_bnd hd rfl rfl fun s d hd hs => ⟨_, rfl, hd, hq, l1, l2, l3⟩) fun _ => ?_
  refine bif_p (fun _ => int_bnd hd rfl rfl fun s d hd hs => ⟨_, rfl, hd, hq, l1, l2, l3⟩) fun _ => ?_
  refine bif_p (fun _ => any_bnd hd fun s d hd hs => ⟨_, rfl, hd, hs, l1, l2, l3⟩) fun _ => ?_
  refine bif_p (fun _ => int_bnd hd rfl rfl fun s d hd hs => ⟨_, rfl, hd, hq, l1, l2, l3⟩) fun _ => ?_
  refine bif_p (fun _ => ?_) fun _ => bif_p (fun _ => s_l7Any_l0_p ⟨hq, h1, h2⟩ (9 - m.ad.length) fuel0 d m.ad hd (by have := h3.1; omega) (fuel_lt (by omega)) h3.2) fun _ => ⟨_, rfl, hd, hq, l1, l2, l3⟩
  obtain ⟨⟨x, d2⟩, e2, hd2, hx⟩ := s_l5Any_p hd
  rw [e2, bnd2_mk, grd_pos (sl_g h1 (sl_one hx) (by omega))]
  exact ⟨_, rfl, hd2, hq, sl_le (sl_app h1 (sl_one hx)) (by omega), l2, l3⟩

theorem take_sl {l : List Rec} (h : smL l) : sl (l.take 8) 8 := ⟨take8_len, fun r hr => h.2 r (List.mem_of_mem_take hr)⟩

theorem serve_dm {z : MZone} {m : MMsg} (h : z.sm) (hq : m.q.sm) : (serve z m).dm 8 := ⟨hq, take_sl (answerIn_sm h m.q), take_sl (moreIn_sm h m.q), ⟨take8_len, fun r hr => h.2.2 r (helpIn_mem (List.mem_of_mem_take hr))⟩⟩

def replyAt (f : MForest) (a : Int) (m : MMsg) : MMsg := match zoneNo f (zoneAt f a m.q.name) with | some z => serve z m | none => reply m 5 false [] [] []

theorem s_ReplyAt_eq {f : MForest} {a : Int} {m : MMsg} (hf : f.sm) (hq : m.q.sm) : s_ReplyAt f a m = some (replyAt f a m) := by
  unfold s_ReplyAt replyAt
  rw [s_ZoneAt_eq hf hq, bnd1_mk]
  rcases zoneAt_at f a m.q.name with ⟨h1, h2⟩ | ⟨h1, z, h2, h3, h4⟩
  · rw [h2, decide_eq_true h1, cond_true, s_ReplyTo_eq (by simp) (by simp) (by simp), bnd1_mk]
  · rw [h3, h2, decide_eq_false h1, cond_false, bnd1_mk, s_Serve_eq (hf.1.2 z h4) hq, bnd1_mk]

theorem replyAt_dm {f : MForest} {a : Int} {m : MMsg} (hf : f.sm) (hq : m.q.sm) : (replyAt f a m).dm 8 := by
  unfold replyAt
  rcases zoneAt_at f a m.q.name with ⟨h1, h2⟩ | ⟨h1, z, h2, h3, h4⟩
  · rw [h2]; exact ⟨hq, ⟨Nat.zero_le _, fun r hr => by cases hr⟩, ⟨Nat.zero_le _, fun r hr => by cases hr⟩, ⟨Nat.zero_le _, fun r hr => by cases hr⟩⟩
  · rw [h3]; exact serve_dm (hf.1.2 z h4) hq

theorem s_l12Name_p {c : Cur} (h : c.inv) : ∃ r, s_l12Name c = some r ∧ r.2.inv ∧ r.1.size ≤ 1048576 := by
  unfold s_l12Name
  exact str_bnd h rfl rfl rfl fun x d hd hx => ⟨_, rfl, hd, hx⟩

theorem name_bnd {α : Type} {c : Cur} {k : ByteArray → Cur → Option α} {P : α → Prop} (h : c.inv) (hk : ∀ x d, d.inv → x.size ≤ 1048576 → ∃ r, k x d = some r ∧ P r) : ∃ r, bnd2 (s_l12Name c) k = some r ∧ P r := by
  obtain ⟨⟨x, d⟩, e, hd, hx⟩ := s_l12Name_p h
  rw [e, bnd2_mk]
  exact hk x d hd hx

theorem quest12_bnd {α : Type} {c : Cur} {k : Quest → Cur → Option α} {P : α → Prop} (h : c.inv) (hk : ∀ x d, d.inv → x.sm → ∃ r, k x d = some r ∧ P r) : ∃ r, bnd2 (s_l12Quest c) k = some r ∧ P r := by
  have : ∃ r, s_l12Quest c = some r ∧ r.2.inv ∧ r.1.sm := by
    unfold s_l12Quest
    exact name_bnd h fun x d hd hx => int_bnd hd rfl rfl fun t d hd _ => ⟨_, rfl, hd, hx⟩
  obtain ⟨⟨x, d⟩, e, hd, hx⟩ := this
  rw [e, bnd2_mk]
  exact hk x d hd hx

theorem forest_bnd {α : Type} {c : Cur} {k : MForest → Cur → Option α} {P : α → Prop} (h : c.inv) (hk : ∀ x d, d.inv → x.df → ∃ r, k x d = some r ∧ P r) : ∃ r, bnd2 (s_l12Draw c) k = some r ∧ P r := by
  obtain ⟨x, d, e, hd, hx⟩ := s_l12Draw_p h
  rw [e, bnd2_mk]
  exact hk x d hd hx

theorem s_l14Reply_j0_p {m : MMsg} {c : Cur} (h : c.inv) (hm : m.dm 9) : ∃ r, s_l14Reply_j0 c.b c.i c.h m.id m.reply m.auth m.cut m.want m.can m.code m.q.name m.q.ty m.an m.au m.ad = some r ∧ r.1.dm 9 ∧ r.2.1.size ≤ 1048576 := by
  unfold s_l14Reply_j0
  exact str_bnd h rfl rfl rfl fun x d hd hx => ⟨_, rfl, hm, hx⟩

theorem s_l14Reply_p {c : Cur} (h : c.inv) : ∃ r, s_l14Reply c = some r ∧ r.1.dm 9 ∧ r.2.1.size ≤ 1048576 := by
  unfold s_l14Reply s_AskMsg
  refine forest_bnd h fun f d hd hf => int_bnd hd rfl rfl fun a d hd _ => below_bnd hd (by omega) (by omega) fun i d hd _ _ => quest12_bnd hd fun q d hd hq => ?_
  rw [bnd1_mk, s_ReplyAt_eq (df_sm hf) hq, bnd1_mk]
  have h8 := replyAt_dm (a := a) (m := ⟨i, false, false, false, false, false, 0, q, [], [], []⟩) (df_sm hf) hq
  generalize replyAt f a ⟨i, false, false, false, false, false, 0, q, [], [], []⟩ = m at h8
  obtain ⟨g0, g1, g2, g3⟩ := h8
  have l1 : sl m.an 9 := sl_le g1 (by omega)
  have l2 : sl m.au 9 := sl_le g2 (by omega)
  have l3 : sl m.ad 9 := sl_le g3 (by omega)
  refine below_bnd hd (by omega) (by omega) fun k d hd _ _ => ?_
  refine bif_p (fun _ => s_l14Reply_j0_p (m := { m with auth := !m.auth }) hd ⟨g0, l1, l2, l3⟩) fun _ => ?_
  refine bif_p (fun _ => int_bnd hd rfl rfl fun s d hd hs => s_l14Reply_j0_p (m := { m with code := s }) hd ⟨g0, l1, l2, l3⟩) fun _ => ?_
  refine bif_p (fun _ => s_l14Reply_j0_p (m := { m with cut := true }) hd ⟨g0, l1, l2, l3⟩) fun _ => ?_
  refine bif_p (fun _ => rec_bnd hd fun x d hd hx => ?_) fun _ => ?_
  · rw [grd_pos (sl_g g1 (sl_one hx) (by omega))]
    exact s_l14Reply_j0_p (m := { m with an := m.an ++ [x] }) hd ⟨g0, sl_app g1 (sl_one hx), l2, l3⟩
  refine bif_p (fun _ => name_bnd hd fun x d hd hx => name_bnd hd fun y d hd hy => ?_) fun _ => ?_
  · unfold s_l10Server
    have hr : (Rec.mk x 2 9 0 y (⟨#[]⟩ : ByteArray)).sm := ⟨hx, hy, by show (⟨#[]⟩ : ByteArray).size ≤ _; decide⟩
    rw [bnd1_mk, grd_pos (sl_g (sl_one hr) g2 (by omega))]
    exact s_l14Reply_j0_p (m := { m with au := [Rec.mk x 2 9 0 y (⟨#[]⟩ : ByteArray)] ++ m.au }) hd ⟨g0, l1, sl_le (sl_app (sl_one hr) g2) (by omega), l3⟩
  refine bif_p (fun _ => ?_) fun _ => s_l14Reply_j0_p (m := m) hd ⟨g0, l1, l2, l3⟩
  obtain ⟨⟨m2, d2⟩, e, hd2, hm2⟩ := s_l7Any_p hd
  rw [e, bnd2_mk]
  exact s_l14Reply_j0_p (m := m2) hd2 hm2

theorem serversIn_mem {m : MMsg} {s : ByteArray} {r : Rec} (h : r ∈ serversIn m s) : r.name ≠ s ∧ under r.name s = true ∧ under m.q.name r.name = true := by
  unfold serversIn at h
  cases hf : m.au.find? (downP m s) with
  | none => rw [hf] at h; cases h
  | some x =>
    rw [hf] at h
    have h1 := (setOf_mem h).2
    have h2 := List.find?_some hf
    unfold downP at h2
    simp only [Bool.and_eq_true, Bool.not_eq_true', decide_eq_false_iff_not, decide_eq_true_eq] at h2
    rw [h1]
    exact ⟨h2.2.1, h2.2.2.1, h2.2.2.2⟩

theorem setOf_ty {l : List Rec} {s : ByteArray} {k : Int} {r : Rec} (h : r ∈ setOf l s k) : r.ty = k := by
  unfold setOf at h
  obtain ⟨h1, h2⟩ := List.mem_filter.1 h
  simp only [Bool.and_eq_true, decide_eq_true_eq] at h2
  exact h2.2

theorem helpersIn_mem {m : MMsg} {s : ByteArray} {r : Rec} (h : r ∈ helpersIn m s) : under r.name s = true ∧ r.ty = 1 := by
  unfold helpersIn helpL at h
  obtain ⟨x, -, hx⟩ := List.mem_flatMap.1 h
  by_cases c : under x s = true
  · rw [if_pos c] at hx
    exact ⟨by rw [(setOf_mem hx).2]; exact c, setOf_ty hx⟩
  · rw [if_neg c] at hx; cases hx

theorem bent_l4 {m : MMsg} {s : ByteArray} (hm : m.q.sm) (hs : s.size ≤ 1048576) : ∀ (l : List Rec) (i : Nat), (∀ r, r ∈ l → r.sm ∧ r.name ≠ s ∧ under r.name s = true ∧ under m.q.name r.name = true) → w_FnClassesBent_l4 m s l i = some true
  | [], _, _ => rfl
  | r :: l, i, h => by
    obtain ⟨h0, h1, h2, h3⟩ := h r (.head _)
    rw [w_FnClassesBent_l4, i_Under_eq h0.1 hs, bnd1_mk, h2, Bool.not_true, cond_false, decide_eq_false h1, cond_false, i_Under_eq hm h0.1, bnd1_mk, h3]
    exact bent_l4 hm hs l _ fun r hr => h r (.tail _ hr)

theorem bent_l2 {m : MMsg} {s : ByteArray} (hs : s.size ≤ 1048576) : ∀ (l : List Rec) (i : Nat), (∀ r, r ∈ l → r.sm ∧ under r.name s = true ∧ r.ty = 1) → w_FnClassesBent_l2 m s l i = w_FnClassesBent_j1 m s
  | [], _, _ => rfl
  | r :: l, i, h => by
    obtain ⟨h0, h1, h2⟩ := h r (.head _)
    rw [w_FnClassesBent_l2, i_Under_eq h0.1 hs, bnd1_mk, h1, Bool.not_true, cond_false, decide_eq_true h2]
    exact bent_l2 hs l _ fun r hr => h r (.tail _ hr)

theorem helpersIn_sm {m : MMsg} (h : m.sm) (s : ByteArray) : ∀ r, r ∈ helpersIn m s → r.sm := fun r hr => by
  unfold helpersIn helpL at hr
  obtain ⟨x, -, hx⟩ := List.mem_flatMap.1 hr
  by_cases c : under x s = true
  · rw [if_pos c] at hx
    exact h.2.2.2.2 r (setOf_mem hx).1
  · rw [if_neg c] at hx; cases hx

theorem i_NothingFor_eq {m : MMsg} {s : ByteArray} (h : m.sm) (hs : s.size ≤ 1048576) : i_NothingFor m s = some (nothingFor m s) := i_NothingFor_l0_eq hs _ _ h.2.2.1.2

theorem s_NothingFor_eq {m : MMsg} {s : ByteArray} (h : m.sm) (hs : s.size ≤ 1048576) : s_NothingFor m s = some (nothingFor m s) := s_NothingFor_l0_eq hs _ _ h.2.2.1.2

theorem law_FnClassesBent {p : List Int} (hp : p.length ≤ 9223372036854775807 ∧ ∀ q, q ∈ p → 0 ≤ q ∧ q < 256) : w_FnClassesBent p = some true := by
  unfold w_FnClassesBent w_big
  rw [bnd1_mk]
  by_cases hb : 1048576 < (p.length : Int)
  · rw [decide_eq_true hb]; rfl
  rw [decide_eq_false hb, cond_false]
  obtain ⟨c, e, hc⟩ := s_l1New_p (b := p) (by omega)
  obtain ⟨⟨m, s, d⟩, e2, hm, hs⟩ := s_l14Reply_p hc
  replace hm := dm_sm hm (by omega)
  replace hs : s.size ≤ 1048576 := hs
  have e3 : s_DrawClassOf p = some (m, s) := by unfold s_DrawClassOf; rw [e, bnd1_mk, e2]; rfl
  rw [e3, bnd2_mk]
  obtain ⟨v, v1, v2⟩ := classOf_same (s := s) hm hs
  have a1 := i_AliasIn_eq hm
  have a2 := s_AliasIn_eq hm
  have a3 := i_DownIn_eq hm hs
  have a4 := s_DownIn_eq hm hs
  generalize aliasIn m = x at a1 a2
  generalize downIn m s = y at a3 a4
  obtain ⟨x1, x2⟩ := x
  obtain ⟨y1, y2⟩ := y
  have hj : w_FnClassesBent_j0 m s false = some true := by
    unfold w_FnClassesBent_j0
    rw [cond_false, i_HelpersIn_eq hm hs, bnd1_mk, bent_l2 hs _ _ (fun r hr => ⟨helpersIn_sm hm s r hr, helpersIn_mem hr⟩)]
    unfold w_FnClassesBent_j1
    rw [i_ServersIn_eq hm hs, bnd1_mk]
    exact bent_l4 hm.1 hs _ _ fun r hr => ⟨(serversIn_sm hm s).2 r hr, serversIn_mem hr⟩
  simp [a1, a2, a3, a4, v1, v2, i_SetIn_eq hm, s_SetIn_eq hm, w_sameRecs_self, i_ServersIn_eq hm hs, s_ServersIn_eq hm hs, i_HelpersIn_eq hm hs, s_HelpersIn_eq hm hs, i_NothingFor_eq hm hs, s_NothingFor_eq hm hs, hj]
end Go.Abs.M
