/- The pure law of FnServes: its pure function answers true. -/
import Derived.Test.YtbkmnbpgpklojaaDoorFnsFnServes
namespace Go.Abs.M
open Go Go.Abs
theorem idx_nat {α : Type} {l : List α} {n : Nat} : idx l (n : Int) = l[n]? := by simp [idx]

def zrec : Rec := ⟨⟨#[]⟩, 0, 0, 0, ⟨#[]⟩, ⟨#[]⟩⟩

def first (p : Rec → Bool) (l : List Rec) : Rec := (l.find? p).getD zrec

theorem s_StartOf_l1_eq : ∀ (l : List Rec) (i : Nat), s_StartOf_l1 l i = some (first (fun r => decide (r.ty = 6)) l)
  | [], i => rfl
  | r :: l, i => by
    rw [s_StartOf_l1, s_StartOf_l1_eq l (i + 1)]
    by_cases c : r.ty = 6 <;> simp [first, c]

theorem s_StartOf_eq {z : MZone} : s_StartOf z = some (first (fun r => decide (r.ty = 6)) z.l) := s_StartOf_l1_eq _ _

theorem i_firstOf_l1_eq : ∀ (l : List Rec) (k : Int) (i : Nat), i_firstOf_l1 k l i = some (first (fun r => decide (r.ty = k)) l)
  | [], k, i => rfl
  | r :: l, k, i => by
    rw [i_firstOf_l1, i_firstOf_l1_eq l k (i + 1)]
    by_cases c : r.ty = k <;> simp [first, c]

theorem i_firstOf_eq {l : List Rec} {k : Int} : i_firstOf l k = some (first (fun r => decide (r.ty = k)) l) := i_firstOf_l1_eq _ _ _

theorem i_StartOf_eq {z : MZone} : i_StartOf z = some (first (fun r => decide (r.ty = 6)) z.l) := by unfold i_StartOf; rw [i_firstOf_eq]; rfl

def setOf (l : List Rec) (nm : ByteArray) (k : Int) : List Rec := l.filter fun r => decide (r.name = nm) && decide (r.ty = k)

theorem setOf_len (l : List Rec) (nm : ByteArray) (k : Int) : (setOf l nm k).length ≤ l.length := List.length_filter_le ..

theorem i_SetOf_l0_eq (nm : ByteArray) (k : Int) : ∀ (l out : List Rec) (i : Nat), out.length + l.length ≤ 1099511627776 → i_SetOf_l0 nm k l out i = some (out ++ setOf l nm k)
  | [], out, i, _ => by simp [i_SetOf_l0, setOf]
  | r :: l, out, i, h => by
    simp only [List.length_cons] at h
    have h1 := i_SetOf_l0_eq nm k l (out ++ [r]) (i + 1) (by simp; omega)
    have h2 := i_SetOf_l0_eq nm k l out (i + 1) (by omega)
    rw [i_SetOf_l0]
    by_cases c : r.name = nm <;> by_cases c' : r.ty = k <;> simp [i_SetOf_j1, c, c', h2, setOf] <;> first
      | (rw [grd_pos (by omega), h1]; simp [setOf, c, c'])

theorem s_SetOf_l0_eq (nm : ByteArray) (k : Int) : ∀ (l out : List Rec) (i : Nat), out.length + l.length ≤ 1099511627776 → s_SetOf_l0 nm k l out i = some (out ++ setOf l nm k)
  | [], out, i, _ => by simp [s_SetOf_l0, setOf]
  | r :: l, out, i, h => by
    simp only [List.length_cons] at h
    have h1 := s_SetOf_l0_eq nm k l (out ++ [r]) (i + 1) (by simp; omega)
    have h2 := s_SetOf_l0_eq nm k l out (i + 1) (by omega)
    rw [s_SetOf_l0]
    by_cases c : r.name = nm <;> by_cases c' : r.ty = k <;> simp [s_SetOf_j1, c, c', h2, setOf] <;> first
      | (rw [grd_pos (by omega), h1]; simp [setOf, c, c'])

def Rec.sm (r : Rec) : Prop := r.name.size ≤ 1048576 ∧ r.host.size ≤ 1048576 ∧ r.text.size ≤ 1048576

def smL (l : List Rec) : Prop := l.length ≤ 1048576 ∧ ∀ r, r ∈ l → r.sm

def MZone.sm (z : MZone) : Prop := z.apex.size ≤ 1048576 ∧ smL z.l

def Quest.sm (q : Quest) : Prop := q.name.size ≤ 1048576

def MMsg.sm (m : MMsg) : Prop := m.q.sm ∧ smL m.an ∧ smL m.au ∧ smL m.ad

theorem setOf_sm {l : List Rec} (h : smL l) (nm : ByteArray) (k : Int) : smL (setOf l nm k) := ⟨Nat.le_trans (setOf_len l nm k) h.1, fun r hr => h.2 r ((List.mem_filter.1 hr).1)⟩

theorem i_SetOf_eq {l : List Rec} {nm : ByteArray} {k : Int} (h : smL l) : i_SetOf l nm k = some (setOf l nm k) := by
  unfold i_SetOf; rw [i_SetOf_l0_eq _ _ _ _ _ (by have := h.1; simp; omega)]; rfl

theorem s_SetOf_eq {l : List Rec} {nm : ByteArray} {k : Int} (h : smL l) : s_SetOf l nm k = some (setOf l nm k) := by
  unfold s_SetOf; rw [s_SetOf_l0_eq _ _ _ _ _ (by have := h.1; simp; omega)]; rfl

def mkB (l : List UInt8) : ByteArray := ⟨l.toArray⟩

def bts (s : ByteArray) : List UInt8 := s.data.toList

theorem bts_mkB (l : List UInt8) : bts (mkB l) = l := rfl

theorem mkB_bts (s : ByteArray) : mkB (bts s) = s := rfl

theorem bts_len (s : ByteArray) : (bts s).length = s.size := rfl

theorem bts_inj {a b : ByteArray} : bts a = bts b ↔ a = b := ⟨fun h => by rw [← mkB_bts a, ← mkB_bts b, h], fun h => by rw [h]⟩

theorem bts_nil_iff (s : ByteArray) : s = ⟨#[]⟩ ↔ bts s = [] := ⟨fun h => by subst h; rfl, fun h => bts_inj.1 (by rw [h]; rfl)⟩

theorem bts_extract (s : ByteArray) (a b : Nat) : bts (s.extract a b) = ((bts s).drop a).take (b - a) := by
  unfold bts
  rw [ByteArray.data_extract, Array.toList_extract, List.extract_eq_take_drop]

theorem extract_mkB (s : ByteArray) (a b : Nat) : s.extract a b = mkB (((bts s).drop a).take (b - a)) := by
  rw [← mkB_bts (s.extract a b), bts_extract]

theorem sidx_nat {s : ByteArray} {n : Nat} {b : UInt8} (h : (bts s)[n]? = some b) : sidx s (n : Int) = some (b.toNat : Int) := by
  obtain ⟨h1, h2⟩ := List.getElem?_eq_some_iff.1 h
  have h3 : n < s.size := h1
  unfold sidx
  rw [dif_pos ⟨by omega, by simpa using h3⟩]
  subst h2
  rfl

/-- The parts of bytes between the dots. -/
def segs : List UInt8 → List UInt8 → List (List UInt8)
  | cur, [] => [cur]
  | cur, b :: l => if b = 46 then cur :: segs [] l else segs (cur ++ [b]) l

def labels (s : ByteArray) : List ByteArray := if bts s = [] then [] else (segs [] (bts s)).map mkB

theorem segs_len : ∀ (l cur : List UInt8), (segs cur l).length ≤ l.length + 1
  | [], cur => by simp [segs]
  | b :: l, cur => by
    unfold segs
    split
    · have := segs_len l []; simp; omega
    · have := segs_len l (cur ++ [b]); simp; omega

theorem labels_len (s : ByteArray) : (labels s).length ≤ s.size + 1 := by
  unfold labels
  split
  · simp
  · have := segs_len (bts s) []
    rw [bts_len] at this
    simpa using this

theorem u8_eq46 (b : UInt8) : ((b.toNat : Int) = 46) ↔ b = 46 := by
  constructor
  · intro h
    have : b.toNat = 46 := by omega
    exact UInt8.toNat_inj.1 this
  · intro h; subst h; rfl

/-- The loop of the reference's Labels: from the place i on, the part having begun at the place f. -/
theorem s_Labels_l0_eq (s : ByteArray) (hs : s.size ≤ 1048576) (hne : s ≠ ⟨#[]⟩) : ∀ (k : Nat) (i f fl : Nat) (out : List ByteArray), s.size - i = k → f ≤ i → i ≤ s.size → out.length ≤ f → k + 1 < fl →
    s_Labels_l0 s fl out (f : Int) (i : Int) = some (out ++ (segs (((bts s).drop f).take (i - f)) ((bts s).drop i)).map mkB)
  | 0, i, f, fl, out, hk, hfi, hi, ho, hfl => by
    obtain ⟨fl, rfl⟩ : ∃ q, fl = q + 1 := ⟨fl - 1, by omega⟩
    obtain ⟨fl, rfl⟩ : ∃ q, fl = q + 1 := ⟨fl - 1, by omega⟩
    have hie : i = s.size := by omega
    rw [s_Labels_l0]
    have e1 : (bts s).drop i = [] := List.drop_eq_nil_of_le (by rw [bts_len]; omega)
    rw [e1]
    simp only [segs, List.map_cons, List.map_nil]
    have c1 : decide ((i : Int) ≤ (s.size : Int)) = true := by simpa using hi
    have c2 : (!decide (s = (⟨#[]⟩ : ByteArray))) = true := by simpa using hne
    rw [c1, c2, cond_true, s_Labels_j1, cond_true]
    have c3 : decide ((i : Int) = (s.size : Int)) = true := by simp [hie]
    rw [c3, cond_true, s_Labels_j2, cond_true, grd_pos (by omega), grd_pos (by simp; omega), grd_pos (by simp only [i64]; omega), grd_pos (by simp only [i64]; omega), s_Labels_l0]
    have c4 : decide ((i : Int) + 1 ≤ (s.size : Int)) = false := by simp; omega
    rw [c4, cond_false, s_Labels_j1, cond_false, extract_mkB]
    simp
  | k + 1, i, f, fl, out, hk, hfi, hi, ho, hfl => by
    obtain ⟨fl, rfl⟩ : ∃ q, fl = q + 1 := ⟨fl - 1, by omega⟩
    have hlt : i < (bts s).length := by rw [bts_len]; omega
    rw [s_Labels_l0]
    have c1 : decide ((i : Int) ≤ (s.size : Int)) = true := by simpa using hi
    have c2 : (!decide (s = (⟨#[]⟩ : ByteArray))) = true := by simpa using hne
    rw [c1, c2, cond_true, s_Labels_j1, cond_true]
    have c3 : decide ((i : Int) = (s.size : Int)) = false := by simp; omega
    have hb : (bts s)[i]? = some (bts s)[i] := List.getElem?_eq_getElem hlt
    rw [c3, cond_false, sidx_nat hb, bnd1_mk, List.drop_eq_getElem_cons hlt, segs]
    have e2 : ((i : Int) + 1) = ((i + 1 : Nat) : Int) := by omega
    by_cases c : (bts s)[i] = 46
    · rw [if_pos c]
      have c5 : decide ((((bts s)[i]).toNat : Int) = 46) = true := by simpa using (u8_eq46 _).2 c
      rw [c5, s_Labels_j2, cond_true, grd_pos (by omega), grd_pos (by simp; omega), grd_pos (by simp only [i64]; omega), grd_pos (by simp only [i64]; omega), e2,
        s_Labels_l0_eq s hs hne k (i + 1) (i + 1) fl _ (by omega) (by omega) (by omega) (by simp; omega) (by omega), extract_mkB]
      simp
    · rw [if_neg c]
      have c5 : decide ((((bts s)[i]).toNat : Int) = 46) = false := by
        have := fun h => c ((u8_eq46 _).1 h)
        simpa using this
      rw [c5, s_Labels_j2, cond_false, grd_pos (by simp only [i64]; omega), e2, s_Labels_l0_eq s hs hne k (i + 1) f fl _ (by omega) (by omega) (by omega) ho (by omega)]
      have e3 : ((bts s).drop f).take (i + 1 - f) = ((bts s).drop f).take (i - f) ++ [(bts s)[i]] := by
        rw [show i + 1 - f = (i - f) + 1 by omega, List.take_add_one]
        congr 1
        rw [List.getElem?_drop, show f + (i - f) = i by omega, hb]
        rfl
      rw [e3]

theorem s_Labels_eq {s : ByteArray} (hs : s.size ≤ 1048576) : s_Labels s = some (labels s) := by
  unfold s_Labels
  by_cases hne : s = ⟨#[]⟩
  · subst hne
    have : fuel0 = 4611686018427387903 + 1 := rfl
    rw [this, s_Labels_l0]
    rfl
  · have h := s_Labels_l0_eq s hs hne s.size 0 0 fuel0 [] (by omega) (by omega) (by omega) (by simp) (by unfold fuel0; omega)
    have e : bts s ≠ [] := fun h => hne ((bts_nil_iff s).2 h)
    simpa [labels, e] using h

theorem indexByte_none : ∀ {l : List UInt8}, Lib.indexByte l 46 = -1 → ∀ cur, segs cur l = [cur ++ l]
  | [], _, cur => by simp [segs]
  | b :: l, h, cur => by
    unfold Lib.indexByte at h
    by_cases c : b = 46
    · subst c; simp at h
    · have hb : (b == (46 : UInt8)) = false := by simpa using c
      rw [hb] at h
      simp only [Bool.false_eq_true, if_false] at h
      by_cases c' : Lib.indexByte l 46 = -1
      · rw [segs, if_neg c, indexByte_none c']; simp
      · have h1 := Lib.indexByte_ge l 46
        rw [if_neg (by simpa using c')] at h
        omega

theorem indexByte_some : ∀ {l : List UInt8} {k : Nat}, Lib.indexByte l 46 = (k : Int) → k < l.length ∧ ∀ cur, segs cur l = (cur ++ l.take k) :: segs [] (l.drop (k + 1))
  | [], k, h => by simp [Lib.indexByte] at h
  | b :: l, k, h => by
    unfold Lib.indexByte at h
    by_cases c : b = 46
    · subst c
      simp at h
      have : k = 0 := by omega
      subst this
      exact ⟨by simp, fun cur => by simp [segs]⟩
    · have hb : (b == (46 : UInt8)) = false := by simpa using c
      rw [hb] at h
      simp only [Bool.false_eq_true, if_false] at h
      have h1 := Lib.indexByte_ge l 46
      by_cases c' : Lib.indexByte l 46 = -1
      · rw [if_pos (by simpa using c')] at h; omega
      · rw [if_neg (by simpa using c')] at h
        obtain ⟨q, rfl⟩ : ∃ q, k = q + 1 := ⟨k - 1, by omega⟩
        obtain ⟨h2, h3⟩ := indexByte_some (l := l) (k := q) (by omega)
        exact ⟨by simp; omega, fun cur => by rw [segs, if_neg c, h3]; simp⟩

theorem count_segs : ∀ (l cur : List UInt8), (segs cur l).length = Lib.countByte l 46 + 1
  | [], cur => by simp [segs, Lib.countByte]
  | b :: l, cur => by
    unfold segs
    by_cases c : b = 46
    · subst c; rw [if_pos rfl, List.length_cons, count_segs l []]; simp [Lib.countByte]
    · rw [if_neg c, count_segs l]; simp [Lib.countByte, c]

theorem dotB : (⟨#[46]⟩ : ByteArray).size = 1 := rfl

theorem dot_sidx : sidx (⟨#[46]⟩ : ByteArray) 0 = some 46 := rfl

theorem strings_Index_dot {s : ByteArray} : strings_Index s ⟨#[46]⟩ = some (if s = ⟨#[46]⟩ then 0 else Lib.indexByte (bts s) 46) := by
  unfold strings_Index internal_stringslite_Index
  rw [dotB]
  by_cases c : s = ⟨#[46]⟩
  · subst c; simp [internal_stringslite_Index_j0]
  · have c' : ¬ ((⟨#[46]⟩ : ByteArray) = s) := fun h => c h.symm
    simp [internal_stringslite_Index_j0, c, c', dotB, dot_sidx, internal_stringslite_IndexByte]
    rfl

theorem strings_Index_dot' {s : ByteArray} : strings_Index s ⟨#[46]⟩ = some (Lib.indexByte (bts s) 46) := by
  rw [strings_Index_dot]
  by_cases c : s = ⟨#[46]⟩
  · subst c; rfl
  · rw [if_neg c]

theorem segs_pos (cur l : List UInt8) : 1 ≤ (segs cur l).length := by rw [count_segs]; omega

theorem idx_cases (l : List UInt8) : Lib.indexByte l 46 = -1 ∨ ∃ k : Nat, Lib.indexByte l 46 = (k : Int) := by
  have h := Lib.indexByte_ge l 46
  rcases Int.lt_or_le (Lib.indexByte l 46) 0 with h1 | h1
  · exact .inl (by omega)
  · exact .inr ⟨(Lib.indexByte l 46).toNat, by omega⟩

theorem genSplit_j1_eq {r : ByteArray} {a : List ByteArray} {i : Nat} (hi : i < a.length) (ha : a.length ≤ 1099511627776) : strings_genSplit_j1 r a (i : Int) = some (a.take i ++ [r]) := by
  unfold strings_genSplit_j1
  rw [idx_nat, List.getElem?_eq_getElem hi, bnd1_mk, grd_pos (by simp only [i64]; omega), grd_pos (by omega)]
  congr 1
  have e : ((i : Int) + 1).toNat - ((0 : Nat) : Int).toNat = i + 1 := by omega
  have e2 : (0 + ((0 : Nat) : Int).toNat) = 0 := by omega
  rw [e, e2, List.drop_zero, Int.toNat_natCast, List.take_add_one, List.take_set_of_le (Nat.le_refl i), List.getElem?_set_self hi]
  rfl

theorem genSplit_l2_eq (p0 : ByteArray) (j : Int) (n : Nat) (hj : (if (p0.size : Int) + 1 < j then (p0.size : Int) + 1 else j) - 1 = (n : Int)) : ∀ (k i fl : Nat) (r : ByteArray) (a : List ByteArray), n - i = k → i ≤ n → k < fl → a.length = n + 1 → a.length ≤ 1099511627776 → (segs [] (bts r)).length = n + 1 - i → r.size ≤ 1048576 →
    strings_genSplit_l2 p0 ⟨#[46]⟩ 0 j fl r a (i : Int) = some (a.take i ++ (segs [] (bts r)).map mkB)
  | 0, i, fl, r, a, hk, hi, hf, ha, ha', hs, hr => by
    obtain ⟨fl, rfl⟩ : ∃ q, fl = q + 1 := ⟨fl - 1, by omega⟩
    have hin : i = n := by omega
    rw [strings_genSplit_l2, hj]
    have c : decide ((i : Int) < (n : Int)) = false := by simp; omega
    rw [c, cond_false, genSplit_j1_eq (by omega) ha']
    rcases idx_cases (bts r) with h | ⟨q, h⟩
    · rw [indexByte_none h]; rfl
    · have h1 := (indexByte_some h).2 []
      have h2 := segs_pos [] ((bts r).drop (q + 1))
      rw [h1] at hs
      simp only [List.length_cons] at hs
      omega
  | k + 1, i, fl, r, a, hk, hi, hf, ha, ha', hs, hr => by
    obtain ⟨fl, rfl⟩ : ∃ q, fl = q + 1 := ⟨fl - 1, by omega⟩
    rw [strings_genSplit_l2, hj]
    have c : decide ((i : Int) < (n : Int)) = true := by simp; omega
    rw [c, cond_true, strings_Index_dot', bnd1_mk]
    rcases idx_cases (bts r) with h | ⟨q, h⟩
    · rw [indexByte_none h] at hs
      simp at hs
      omega
    · obtain ⟨h1, h2⟩ := indexByte_some h
      have h2 := h2 []
      rw [bts_len] at h1
      have hi' : i < a.length := by omega
      rw [h, dotB]
      have c' : decide ((q : Int) < 0) = false := by simp
      have e1 : ((i : Int) + 1) = ((i + 1 : Nat) : Int) := by omega
      rw [c', cond_false, grd_pos (by simp only [i64]; omega), grd_pos (by omega), idx_nat, List.getElem?_eq_getElem hi', bnd1_mk, grd_pos (by simp only [i64]; omega), grd_pos (by omega), grd_pos (by simp only [i64]; omega), e1]
      have e2 : bts (r.extract ((q : Int) + ((1 : Nat) : Int)).toNat (r.size : Int).toNat) = (bts r).drop (q + 1) := by
        rw [bts_extract]
        have e3 : ((q : Int) + ((1 : Nat) : Int)).toNat = q + 1 := by omega
        rw [e3, List.take_of_length_le (by rw [List.length_drop, bts_len]; omega)]
      rw [h2, List.length_cons] at hs
      rw [genSplit_l2_eq p0 j n hj k (i + 1) fl _ _ (by omega) (by omega) (by omega) (by simp [ha]) (by simp [ha']) (by rw [e2]; omega) (by rw [ByteArray.size_extract]; omega), e2, h2]
      congr 1
      rw [Int.toNat_natCast, List.take_add_one, List.take_set_of_le (Nat.le_refl i), List.getElem?_set_self hi', extract_mkB]
      have e4 : ((q : Int) + 0).toNat - ((0 : Nat) : Int).toNat = q := by omega
      rw [e4]
      simp

theorem strings_Count_dot {s : ByteArray} : strings_Count s ⟨#[46]⟩ = some ((Lib.countByte (bts s) 46 : Nat) : Int) := by
  unfold strings_Count
  have c1 : decide (((⟨#[46]⟩ : ByteArray).size : Int) = 0) = false := by rw [dotB]; decide
  have c2 : decide (((⟨#[46]⟩ : ByteArray).size : Int) = 1) = true := by rw [dotB]; decide
  have h46 : (46 : Int).toNat.toUInt8 = 46 := by decide
  rw [c1, cond_false, c2, cond_true, dot_sidx, bnd1_mk, h46]
  rfl

theorem i_Labels_eq {s : ByteArray} (hs : s.size ≤ 1048576) : i_Labels s = some (labels s) := by
  unfold i_Labels
  by_cases hne : s = ⟨#[]⟩
  · subst hne
    have e : bts (⟨#[]⟩ : ByteArray) = [] := rfl
    simp [labels, e]
  · have e : bts s ≠ [] := fun h => hne ((bts_nil_iff s).2 h)
    have hne' : ¬ ((⟨#[46]⟩ : ByteArray) = ⟨#[]⟩) := by decide
    have hc := count_segs (bts s) []
    have hl := segs_len (bts s) []
    rw [bts_len] at hl
    have e0 := strings_Count_dot (s := s)
    have hjj : (if (s.size : Int) + 1 < ((Lib.countByte (bts s) 46 : Nat) : Int) + 1 then (s.size : Int) + 1 else ((Lib.countByte (bts s) 46 : Nat) : Int) + 1) = ((Lib.countByte (bts s) 46 : Nat) : Int) + 1 := by rw [if_neg (by omega)]
    have hloop := genSplit_l2_eq s (((Lib.countByte (bts s) 46 : Nat) : Int) + 1) (Lib.countByte (bts s) 46) (by rw [hjj]; omega) (Lib.countByte (bts s) 46) 0 fuel0 s (List.replicate (((Lib.countByte (bts s) 46 : Nat) : Int) + 1).toNat ⟨#[]⟩) (by omega) (by omega) (by unfold fuel0; omega) (by simp) (by simp; omega) (by omega) hs
    have g0 : decide ((-1 : Int) = 0) = false := by decide
    have g1 : decide ((⟨#[46]⟩ : ByteArray) = ⟨#[]⟩) = false := decide_eq_false hne'
    have g2 : decide ((-1 : Int) < 0) = true := by decide
    rw [decide_eq_false hne, cond_false, strings_Split, strings_genSplit, g0, g1, g2, cond_false, cond_false, cond_true, e0, bnd1_mk, grd_pos (by simp only [i64]; omega), strings_genSplit_j0, hjj, grd_pos (by simp only [i64]; omega), grd_pos (by omega), grd_pos (by simp only [i64]; omega)]
    rw [Int.natCast_zero] at hloop
    rw [hloop, bnd1_mk, bnd1_mk]
    unfold labels
    rw [if_neg e, List.take_zero, List.nil_append]

theorem idx_sub {α : Type} {l : List α} {n : Nat} (h : n ≤ l.length) : idx l ((l.length : Int) - (n : Int)) = l[l.length - n]? := by
  have e : (l.length : Int) - (n : Int) = ((l.length - n : Nat) : Int) := by omega
  rw [e, idx_nat]

def under (a b : ByteArray) : Bool := decide ((labels b).length ≤ (labels a).length) && decide ((labels a).drop ((labels a).length - (labels b).length) = labels b)

theorem slices_Equal_string_l0_eq : ∀ (t : List ByteArray) (pre q : List ByteArray), t.length = q.length → slices_Equal_string_l0 (pre ++ q) t pre.length = some (decide (t = q))
  | [], pre, q, h => by cases q with | nil => rfl | cons a b => simp at h
  | x :: t, pre, q, h => by
    cases q with
    | nil => simp at h
    | cons y q =>
      rw [slices_Equal_string_l0]
      have := slices_Equal_string_l0_eq t (pre ++ [y]) q (by simpa using h)
      simp only [idx_nat]
      simp only [List.length_append, List.length_singleton, List.append_assoc, List.singleton_append] at this
      by_cases c : x = y <;> simp [c, this]

theorem slices_Equal_string_eq {a b : List ByteArray} : slices_Equal_string a b = some (decide (a = b)) := by
  unfold slices_Equal_string
  by_cases c : a.length = b.length
  · have := slices_Equal_string_l0_eq a [] b c
    simpa [c] using this
  · have c' : a ≠ b := fun h => c (by rw [h])
    have c2 : ¬ ((a.length : Int) = (b.length : Int)) := by omega
    simp [c2, c']

theorem i_Under_eq {a b : ByteArray} (ha : a.size ≤ 1048576) (hb : b.size ≤ 1048576) : i_Under a b = some (under a b) := by
  unfold i_Under
  have la := labels_len a
  have lb := labels_len b
  rw [i_Labels_eq ha, i_Labels_eq hb, bnd1_mk, bnd1_mk]
  unfold under
  by_cases c : (labels b).length ≤ (labels a).length
  · have c' : decide (((labels b).length : Int) ≤ ((labels a).length : Int)) = true := by simpa using c
    rw [c', cond_true, grd_pos (by simp only [i64]; omega), grd_pos (by omega), slices_Equal_string_eq, bnd1_mk]
    have e1 : (((labels a).length : Int) - ((labels b).length : Int)).toNat = (labels a).length - (labels b).length := by omega
    rw [e1, List.take_of_length_le (by simp)]
    simp [c]
  · have c' : decide (((labels b).length : Int) ≤ ((labels a).length : Int)) = false := by simp; omega
    rw [c', cond_false]
    simp [c]

/-- The loop of the reference's Under: the last i - 1 parts are alike. -/
theorem s_Under_l0_eq (x y : List ByteArray) (hx : x.length ≤ 2097152) (hl : y.length ≤ x.length) : ∀ (k i fl : Nat), y.length + 1 - i = k → 1 ≤ i → i ≤ y.length + 1 → k < fl → x.drop (x.length - (i - 1)) = y.drop (y.length - (i - 1)) →
    s_Under_l0 x y fl (i : Int) = some (decide (x.drop (x.length - y.length) = y))
  | 0, i, fl, hk, h1, hi, hf, hd => by
    obtain ⟨fl, rfl⟩ : ∃ q, fl = q + 1 := ⟨fl - 1, by omega⟩
    rw [s_Under_l0]
    have c : decide ((i : Int) ≤ (y.length : Int)) = false := by simp; omega
    have e : i - 1 = y.length := by omega
    rw [e, Nat.sub_self, List.drop_zero] at hd
    rw [c, cond_false, decide_eq_true hd]
  | k + 1, i, fl, hk, h1, hi, hf, hd => by
    obtain ⟨fl, rfl⟩ : ∃ q, fl = q + 1 := ⟨fl - 1, by omega⟩
    rw [s_Under_l0]
    have c : decide ((i : Int) ≤ (y.length : Int)) = true := by simp; omega
    have hx' : x.length - i < x.length := by omega
    have hy' : y.length - i < y.length := by omega
    rw [c, cond_true, grd_pos (by simp only [i64]; omega), idx_sub (by omega), List.getElem?_eq_getElem hx', bnd1_mk, grd_pos (by simp only [i64]; omega), idx_sub (by omega), List.getElem?_eq_getElem hy', bnd1_mk]
    have ex : x.drop (x.length - i) = x[x.length - i] :: x.drop (x.length - (i - 1)) := by
      rw [List.drop_eq_getElem_cons hx', show x.length - i + 1 = x.length - (i - 1) by omega]
    have ey : y.drop (y.length - i) = y[y.length - i] :: y.drop (y.length - (i - 1)) := by
      rw [List.drop_eq_getElem_cons hy', show y.length - i + 1 = y.length - (i - 1) by omega]
    by_cases c2 : x[x.length - i] = y[y.length - i]
    · have e1 : ((i : Int) + 1) = ((i + 1 : Nat) : Int) := by omega
      rw [decide_eq_true c2, Bool.not_true, cond_false, grd_pos (by simp only [i64]; omega), e1, s_Under_l0_eq x y hx hl k (i + 1) fl (by omega) (by omega) (by omega) (by omega) (by rw [Nat.add_sub_cancel, ex, ey, c2, hd])]
    · rw [decide_eq_false c2, Bool.not_false, cond_true]
      have : ¬ (x.drop (x.length - y.length) = y) := fun h => c2 (by
        have h2 : (x.drop (x.length - y.length)).drop (y.length - i) = y.drop (y.length - i) := by rw [h]
        rw [List.drop_drop, show x.length - y.length + (y.length - i) = x.length - i by omega, ex, ey] at h2
        exact (List.cons.inj h2).1)
      rw [decide_eq_false this]

theorem s_Under_eq {a b : ByteArray} (ha : a.size ≤ 1048576) (hb : b.size ≤ 1048576) : s_Under a b = some (under a b) := by
  unfold s_Under
  have la := labels_len a
  have lb := labels_len b
  rw [s_Labels_eq ha, s_Labels_eq hb, bnd1_mk, bnd1_mk]
  unfold under
  by_cases c : (labels b).length ≤ (labels a).length
  · have c' : decide (((labels a).length : Int) < ((labels b).length : Int)) = false := by simp; omega
    have := s_Under_l0_eq (labels a) (labels b) (by omega) c (labels b).length 1 fuel0 (by omega) (by omega) (by omega) (by unfold fuel0; omega) (by simp)
    rw [c', cond_false]
    rw [show ((1 : Nat) : Int) = 1 from rfl] at this
    rw [this]
    simp [c]
  · have c' : decide (((labels a).length : Int) < ((labels b).length : Int)) = true := by simp; omega
    rw [c', cond_true]
    simp [c]

theorem slices_IndexFunc_Record_l0_eq {g : Rec → Option Bool} {p : Rec → Bool} : ∀ (l : List Rec) (i : Nat), (∀ r, r ∈ l → g r = some (p r)) → ∃ v, slices_IndexFunc_Record_l0 g l i = some v ∧ decide (0 ≤ v) = l.any p
  | [], i, _ => ⟨-1, rfl, rfl⟩
  | r :: l, i, h => by
    rw [slices_IndexFunc_Record_l0, h r (.head _), bnd1_mk]
    cases c : p r with
    | true => exact ⟨i, rfl, by simp [c]⟩
    | false =>
      obtain ⟨v, h1, h2⟩ := slices_IndexFunc_Record_l0_eq l (i + 1) fun q hq => h q (.tail _ hq)
      exact ⟨v, h1, by simp [c, h2]⟩

theorem slices_ContainsFunc_Record_eq {g : Rec → Option Bool} {p : Rec → Bool} {l : List Rec} (h : ∀ r, r ∈ l → g r = some (p r)) : slices_ContainsFunc_Record l g = some (l.any p) := by
  obtain ⟨v, h1, h2⟩ := slices_IndexFunc_Record_l0_eq l 0 h
  unfold slices_ContainsFunc_Record slices_IndexFunc_Record
  rw [h1, bnd1_mk, h2]

theorem i_Exists_eq {z : MZone} {s : ByteArray} (hz : smL z.l) (hs : s.size ≤ 1048576) : i_Exists z s = some (z.l.any fun r => under r.name s) := by
  unfold i_Exists
  rw [slices_ContainsFunc_Record_eq (p := fun r => under r.name s) fun r hr => by unfold i_Exists_1; rw [i_Under_eq (hz.2 r hr).1 hs]; rfl]
  rfl

theorem s_Exists_l0_eq {s : ByteArray} (hs : s.size ≤ 1048576) : ∀ (l : List Rec) (i : Nat), (∀ r, r ∈ l → r.sm) → s_Exists_l0 s l i = some (l.any fun r => under r.name s)
  | [], i, _ => rfl
  | r :: l, i, h => by
    rw [s_Exists_l0, s_Under_eq (h r (.head _)).1 hs, bnd1_mk, s_Exists_l0_eq hs l (i + 1) fun q hq => h q (.tail _ hq)]
    cases c : under r.name s <;> simp [c]

theorem s_Exists_eq {z : MZone} {s : ByteArray} (hz : smL z.l) (hs : s.size ≤ 1048576) : s_Exists z s = some (z.l.any fun r => under r.name s) := s_Exists_l0_eq hs _ _ hz.2

def hasS (s : ByteArray) (l : List ByteArray) : Bool := l.any fun x => decide (x = s)

theorem s_l9Has_l0_eq {s : ByteArray} : ∀ (l : List ByteArray) (i : Nat), s_l9Has_l0 s l i = some (hasS s l)
  | [], i => rfl
  | x :: l, i => by
    rw [s_l9Has_l0, s_l9Has_l0_eq l (i + 1)]
    by_cases c : x = s <;> simp [c, hasS]

theorem s_l9Has_eq {l : List ByteArray} {s : ByteArray} : s_l9Has l s = some (hasS s l) := s_l9Has_l0_eq _ _

theorem slices_Index_string_l0_eq {s : ByteArray} : ∀ (l : List ByteArray) (i : Nat), ∃ v, slices_Index_string_l0 s l i = some v ∧ decide (0 ≤ v) = hasS s l
  | [], i => ⟨-1, rfl, rfl⟩
  | x :: l, i => by
    rw [slices_Index_string_l0]
    by_cases c : s = x
    · subst c; exact ⟨i, by simp, by simp [hasS]⟩
    · obtain ⟨v, h1, h2⟩ := slices_Index_string_l0_eq (s := s) l (i + 1)
      have c' : ¬ (x = s) := fun h => c h.symm
      exact ⟨v, by simp [c, h1], by rw [h2]; simp [hasS, c']⟩

theorem slices_Contains_string_eq {l : List ByteArray} {s : ByteArray} : slices_Contains_string l s = some (hasS s l) := by
  obtain ⟨v, h1, h2⟩ := slices_Index_string_l0_eq (s := s) l 0
  unfold slices_Contains_string slices_Index_string
  rw [h1, bnd1_mk, h2]

/-- The cuts of a zone, as they are collected. -/
def cutP (apex : ByteArray) (out : List ByteArray) (r : Rec) : Bool := decide (r.ty = 2) && (!decide (r.name = apex) && (under r.name apex && !hasS r.name out))

def cutsL (apex : ByteArray) : List Rec → List ByteArray → List ByteArray
  | [], out => out
  | r :: l, out => bif cutP apex out r then cutsL apex l (out ++ [r.name]) else cutsL apex l out

def cutsOf (z : MZone) : List ByteArray := cutsL z.apex z.l []

theorem cutsL_len (apex : ByteArray) : ∀ (l : List Rec) (out : List ByteArray), (cutsL apex l out).length ≤ out.length + l.length
  | [], out => Nat.le_refl _
  | r :: l, out => by
    unfold cutsL
    have h1 := cutsL_len apex l (out ++ [r.name])
    have h2 := cutsL_len apex l out
    cases cutP apex out r <;> simp at h1 h2 ⊢ <;> omega

theorem cutsL_mem (apex : ByteArray) : ∀ (l : List Rec) (out : List ByteArray) (x : ByteArray), x ∈ cutsL apex l out → x ∈ out ∨ ∃ r, r ∈ l ∧ r.name = x
  | [], out, x, h => .inl h
  | r :: l, out, x, h => by
    unfold cutsL at h
    cases c : cutP apex out r with
    | true =>
      rw [c, cond_true] at h
      rcases cutsL_mem apex l _ x h with h1 | ⟨q, h1, h2⟩
      · rcases List.mem_append.1 h1 with h2 | h2
        · exact .inl h2
        · rw [List.mem_singleton] at h2; exact .inr ⟨r, .head _, h2.symm⟩
      · exact .inr ⟨q, .tail _ h1, h2⟩
    | false =>
      rw [c, cond_false] at h
      rcases cutsL_mem apex l _ x h with h1 | ⟨q, h1, h2⟩
      · exact .inl h1
      · exact .inr ⟨q, .tail _ h1, h2⟩

theorem cutsOf_sm {z : MZone} (h : z.sm) : (cutsOf z).length ≤ 1048576 ∧ ∀ x, x ∈ cutsOf z → x.size ≤ 1048576 := by
  refine ⟨?_, fun x hx => ?_⟩
  · have h1 := cutsL_len z.apex z.l []
    have h2 := h.2.1
    simp only [List.length_nil] at h1
    unfold cutsOf; omega
  · rcases cutsL_mem z.apex z.l [] x hx with h1 | ⟨r, h1, rfl⟩
    · cases h1
    · exact (h.2.2 r h1).1

theorem i_CutsOf_l0_eq {z : MZone} (hz : z.apex.size ≤ 1048576) : ∀ (l : List Rec) (out : List ByteArray) (i : Nat), (∀ r, r ∈ l → r.sm) → out.length + l.length ≤ 1048576 → i_CutsOf_l0 z l out i = some (cutsL z.apex l out)
  | [], out, i, _, _ => rfl
  | r :: l, out, i, h, hl => by
    have hr := (h r (.head _)).1
    simp only [List.length_cons] at hl
    have h1 := i_CutsOf_l0_eq hz l (out ++ [r.name]) (i + 1) (fun q hq => h q (.tail _ hq)) (by simp; omega)
    have h2 := i_CutsOf_l0_eq hz l out (i + 1) (fun q hq => h q (.tail _ hq)) (by omega)
    rw [i_CutsOf_l0, cutsL, cutP]
    by_cases c1 : r.ty = 2 <;> by_cases c2 : r.name = z.apex <;> cases c3 : under r.name z.apex <;> cases c4 : hasS r.name out <;>
      simp [i_CutsOf_j1, c1, c2, h2, i_Under_eq hr hz, c3, slices_Contains_string_eq, c4] <;> first | done | (rw [grd_pos (by omega)]; exact h1) | simp_all [i_Under_eq hr hz, slices_Contains_string_eq]

theorem i_CutsOf_eq {z : MZone} (h : z.sm) : i_CutsOf z = some (cutsOf z) := i_CutsOf_l0_eq h.1 _ _ _ h.2.2 (by simpa using h.2.1)

theorem s_CutsOf_l0_eq {z : MZone} (hz : z.apex.size ≤ 1048576) : ∀ (l : List Rec) (out : List ByteArray) (i : Nat), (∀ r, r ∈ l → r.sm) → out.length + l.length ≤ 1048576 → s_CutsOf_l0 z l out i = some (cutsL z.apex l out)
  | [], out, i, _, _ => rfl
  | r :: l, out, i, h, hl => by
    have hr := (h r (.head _)).1
    simp only [List.length_cons] at hl
    have h1 := s_CutsOf_l0_eq hz l (out ++ [r.name]) (i + 1) (fun q hq => h q (.tail _ hq)) (by simp; omega)
    have h2 := s_CutsOf_l0_eq hz l out (i + 1) (fun q hq => h q (.tail _ hq)) (by omega)
    rw [s_CutsOf_l0, cutsL, cutP]
    by_cases c1 : r.ty = 2 <;> by_cases c2 : r.name = z.apex <;> cases c3 : under r.name z.apex <;> cases c4 : hasS r.name out <;>
      simp [s_CutsOf_j1, c1, c2, h2, s_Under_eq hr hz, c3, s_l9Has_eq, c4] <;> first | done | (rw [grd_pos (by omega)]; exact h1) | simp_all [s_Under_eq hr hz, s_l9Has_eq]

theorem s_CutsOf_eq {z : MZone} (h : z.sm) : s_CutsOf z = some (cutsOf z) := s_CutsOf_l0_eq h.1 _ _ _ h.2.2 (by simpa using h.2.1)

def cutOf (z : MZone) (s : ByteArray) : ByteArray × Bool := match (cutsOf z).find? (under s) with | some c => (c, true) | none => (⟨#[]⟩, false)

theorem i_CutOf_l0_eq {s : ByteArray} (hs : s.size ≤ 1048576) : ∀ (l : List ByteArray) (i : Nat), (∀ x, x ∈ l → x.size ≤ 1048576) → i_CutOf_l0 s l i = some (match l.find? (under s) with | some c => (c, true) | none => (⟨#[]⟩, false))
  | [], i, _ => rfl
  | x :: l, i, h => by
    rw [i_CutOf_l0, i_Under_eq hs (h x (.head _)), bnd1_mk, i_CutOf_l0_eq hs l (i + 1) fun y hy => h y (.tail _ hy)]
    cases c : under s x <;> simp [c]

theorem s_CutOf_l0_eq {s : ByteArray} (hs : s.size ≤ 1048576) : ∀ (l : List ByteArray) (i : Nat), (∀ x, x ∈ l → x.size ≤ 1048576) → s_CutOf_l0 s l i = some (match l.find? (under s) with | some c => (c, true) | none => (⟨#[]⟩, false))
  | [], i, _ => rfl
  | x :: l, i, h => by
    rw [s_CutOf_l0, s_Under_eq hs (h x (.head _)), bnd1_mk, s_CutOf_l0_eq hs l (i + 1) fun y hy => h y (.tail _ hy)]
    cases c : under s x <;> simp [c]

theorem i_CutOf_eq {z : MZone} {s : ByteArray} (h : z.sm) (hs : s.size ≤ 1048576) : i_CutOf z s = some (cutOf z s) := by
  unfold i_CutOf; rw [i_CutsOf_eq h, bnd1_mk, i_CutOf_l0_eq hs _ _ (cutsOf_sm h).2]; rfl

theorem s_CutOf_eq {z : MZone} {s : ByteArray} (h : z.sm) (hs : s.size ≤ 1048576) : s_CutOf z s = some (cutOf z s) := by
  unfold s_CutOf; rw [s_CutsOf_eq h, bnd1_mk, s_CutOf_l0_eq hs _ _ (cutsOf_sm h).2]; rfl

theorem s_Least_eq {a b : Int} : s_Least a b = some (if b < a then b else a) := by
  unfold s_Least
  by_cases c : b < a <;> simp [c]

theorem get_app {α : Type} (pre t : List α) (x : α) : (pre ++ x :: t)[pre.length]? = some x := by simp

def hostP (out : List ByteArray) (r : Rec) : Bool := decide (r.ty = 2) && !hasS r.host out

def hostsL : List Rec → List ByteArray → List ByteArray
  | [], out => out
  | r :: l, out => bif hostP out r then hostsL l (out ++ [r.host]) else hostsL l out

theorem hostsL_len : ∀ (l : List Rec) (out : List ByteArray), (hostsL l out).length ≤ out.length + l.length
  | [], out => Nat.le_refl _
  | r :: l, out => by
    unfold hostsL
    have h1 := hostsL_len l (out ++ [r.host])
    have h2 := hostsL_len l out
    cases hostP out r <;> simp at h1 h2 ⊢ <;> omega

theorem hostsL_mem : ∀ (l : List Rec) (out : List ByteArray) (x : ByteArray), x ∈ hostsL l out → x ∈ out ∨ ∃ r, r ∈ l ∧ r.host = x
  | [], out, x, h => .inl h
  | r :: l, out, x, h => by
    unfold hostsL at h
    cases c : hostP out r with
    | true =>
      rw [c, cond_true] at h
      rcases hostsL_mem l _ x h with h1 | ⟨q, h1, h2⟩
      · rcases List.mem_append.1 h1 with h2 | h2
        · exact .inl h2
        · rw [List.mem_singleton] at h2; exact .inr ⟨r, .head _, h2.symm⟩
      · exact .inr ⟨q, .tail _ h1, h2⟩
    | false =>
      rw [c, cond_false] at h
      rcases hostsL_mem l _ x h with h1 | ⟨q, h1, h2⟩
      · exact .inl h1
      · exact .inr ⟨q, .tail _ h1, h2⟩

theorem hostsL_sm {l : List Rec} (h : smL l) : (hostsL l []).length ≤ 1048576 ∧ ∀ x, x ∈ hostsL l [] → x.size ≤ 1048576 := by
  refine ⟨?_, fun x hx => ?_⟩
  · have h1 := hostsL_len l []
    have h2 := h.1
    simp only [List.length_nil] at h1
    omega
  · rcases hostsL_mem l [] x hx with h1 | ⟨r, h1, rfl⟩
    · cases h1
    · exact (h.2 r h1).2.1

theorem i_Hosts_l0_eq : ∀ (l : List Rec) (out : List ByteArray) (i : Nat), out.length + l.length ≤ 1048576 → i_Hosts_l0 l out i = some (hostsL l out)
  | [], out, i, _ => rfl
  | r :: l, out, i, hl => by
    simp only [List.length_cons] at hl
    have h1 := i_Hosts_l0_eq l (out ++ [r.host]) (i + 1) (by simp; omega)
    have h2 := i_Hosts_l0_eq l out (i + 1) (by omega)
    rw [i_Hosts_l0, hostsL, hostP, slices_Contains_string_eq, bnd1_mk]
    by_cases c1 : r.ty = 2 <;> cases c4 : hasS r.host out <;> simp [i_Hosts_j1, c1, h2] <;> (rw [grd_pos (by omega)]; exact h1)

theorem s_Hosts_l0_eq : ∀ (l : List Rec) (out : List ByteArray) (i : Nat), out.length + l.length ≤ 1048576 → s_Hosts_l0 l out i = some (hostsL l out)
  | [], out, i, _ => rfl
  | r :: l, out, i, hl => by
    simp only [List.length_cons] at hl
    have h1 := s_Hosts_l0_eq l (out ++ [r.host]) (i + 1) (by simp; omega)
    have h2 := s_Hosts_l0_eq l out (i + 1) (by omega)
    rw [s_Hosts_l0, hostsL, hostP, s_l9Has_eq, bnd1_mk]
    by_cases c1 : r.ty = 2 <;> cases c4 : hasS r.host out <;> simp [s_Hosts_j1, c1, h2] <;> (rw [grd_pos (by omega)]; exact h1)

theorem i_Hosts_eq {l : List Rec} (h : smL l) : i_Hosts l = some (hostsL l []) := i_Hosts_l0_eq _ _ _ (by simpa using h.1)

theorem s_Hosts_eq {l : List Rec} (h : smL l) : s_Hosts l = some (hostsL l []) := s_Hosts_l0_eq _ _ _ (by simpa using h.1)

theorem rec_ext {a b : Rec} : (decide (a.name = b.name) && (decide (a.ty = b.ty) && (decide (a.ttl = b.ttl) && (decide (a.n = b.n) && (decide (a.host = b.host) && (decide (a.text = b.text) && true)))))) = decide (a = b) := by
  cases a; cases b
  simp [Bool.and_assoc]

theorem slices_Clone_Record_eq {l : List Rec} (h : l.length ≤ 1099511627776) : slices_Clone_Record l = some l := by
  unfold slices_Clone_Record
  rw [List.nil_append, grd_pos h]

def glueL (zl : List Rec) (l : List ByteArray) : List Rec := l.flatMap fun h => setOf zl h 1

theorem i_Glue_l0_eq {z : MZone} (hz : smL z.l) : ∀ (l : List ByteArray) (out : List Rec) (i : Nat), out.length + l.length * 1048576 ≤ 1099511627776 → i_Glue_l0 z l out i = some (out ++ glueL z.l l)
  | [], out, i, _ => by simp [i_Glue_l0, glueL]
  | x :: l, out, i, hl => by
    rw [List.length_cons, Nat.add_mul, Nat.one_mul] at hl
    have h2 := setOf_len z.l x 1
    have h3 := hz.1
    have hq : (out ++ setOf z.l x 1).length + l.length * 1048576 ≤ 1099511627776 := by rw [List.length_append]; generalize l.length * 1048576 = Q at hl ⊢; omega
    have e : glueL z.l (x :: l) = setOf z.l x 1 ++ glueL z.l l := by simp [glueL]
    rw [i_Glue_l0, i_SetOf_eq hz, bnd1_mk, grd_pos (Nat.le_trans (Nat.le_add_right _ _) hq), i_Glue_l0_eq hz l _ (i + 1) hq, e, List.append_assoc]

theorem s_Glue_l0_eq {z : MZone} (hz : smL z.l) : ∀ (l : List ByteArray) (out : List Rec) (i : Nat), out.length + l.length * 1048576 ≤ 1099511627776 → s_Glue_l0 z l out i = some (out ++ glueL z.l l)
  | [], out, i, _ => by simp [s_Glue_l0, glueL]
  | x :: l, out, i, hl => by
    rw [List.length_cons, Nat.add_mul, Nat.one_mul] at hl
    have h2 := setOf_len z.l x 1
    have h3 := hz.1
    have hq : (out ++ setOf z.l x 1).length + l.length * 1048576 ≤ 1099511627776 := by rw [List.length_append]; generalize l.length * 1048576 = Q at hl ⊢; omega
    have e : glueL z.l (x :: l) = setOf z.l x 1 ++ glueL z.l l := by simp [glueL]
    rw [s_Glue_l0, s_SetOf_eq hz, bnd1_mk, grd_pos (Nat.le_trans (Nat.le_add_right _ _) hq), s_Glue_l0_eq hz l _ (i + 1) hq, e, List.append_assoc]

theorem i_Glue_eq {z : MZone} {l : List ByteArray} (hz : smL z.l) (hl : l.length ≤ 1048576) : i_Glue z l = some (glueL z.l l) := i_Glue_l0_eq hz l [] 0 (by rw [List.length_nil]; have := Nat.mul_le_mul_right 1048576 hl; omega)

theorem s_Glue_eq {z : MZone} {l : List ByteArray} (hz : smL z.l) (hl : l.length ≤ 1048576) : s_Glue z l = some (glueL z.l l) := s_Glue_l0_eq hz l [] 0 (by rw [List.length_nil]; have := Nat.mul_le_mul_right 1048576 hl; omega)

def kindIn (z : MZone) (q : Quest) : Int :=
  bif !under q.name z.apex then 0 else (bif (cutOf z q.name).2 then 1 else (bif !decide (q.ty = 5) && decide (0 < ((setOf z.l q.name 5).length : Int)) then 2 else (bif decide (0 < ((setOf z.l q.name q.ty).length : Int)) then 3 else (bif z.l.any (fun r => under r.name q.name) then 4 else 5))))

theorem s_KindIn_eq {z : MZone} {q : Quest} (h : z.sm) (hq : q.sm) : s_KindIn z q = some (kindIn z q) := by
  unfold s_KindIn kindIn
  have h2 := s_CutOf_eq h hq
  generalize cutOf z q.name = x at h2
  obtain ⟨x, y⟩ := x
  rw [h2, bnd2_mk, s_Under_eq hq h.1, bnd1_mk, s_SetOf_eq h.2, bnd1_mk]
  unfold s_KindIn_j0
  rw [s_SetOf_eq h.2, bnd1_mk, s_Exists_eq h.2 hq, bnd1_mk]
  cases under q.name z.apex <;> cases y <;> cases decide (q.ty = 5) <;> cases decide (0 < ((setOf z.l q.name 5).length : Int)) <;> cases decide (0 < ((setOf z.l q.name q.ty).length : Int)) <;> cases z.l.any (fun r => under r.name q.name) <;> rfl

theorem i_KindIn_eq {z : MZone} {q : Quest} (h : z.sm) (hq : q.sm) : i_KindIn z q = some (kindIn z q) := by
  unfold i_KindIn kindIn
  have h2 := i_CutOf_eq h hq
  generalize cutOf z q.name = x at h2
  obtain ⟨x, y⟩ := x
  rw [h2, bnd2_mk, i_Under_eq hq h.1, bnd1_mk, i_SetOf_eq h.2, bnd1_mk]
  unfold i_KindIn_j0
  rw [i_SetOf_eq h.2, bnd1_mk, i_Exists_eq h.2 hq, bnd1_mk]
  cases under q.name z.apex <;> cases y <;> cases decide (q.ty = 5) <;> cases decide (0 < ((setOf z.l q.name 5).length : Int)) <;> cases decide (0 < ((setOf z.l q.name q.ty).length : Int)) <;> cases z.l.any (fun r => under r.name q.name) <;> rfl

def answerIn (z : MZone) (q : Quest) : List Rec := bif decide (kindIn z q = 2) then setOf z.l q.name 5 else (bif decide (kindIn z q = 3) then setOf z.l q.name q.ty else [])

theorem s_AnswerIn_eq {z : MZone} {q : Quest} (h : z.sm) (hq : q.sm) : s_AnswerIn z q = some (answerIn z q) := by
  unfold s_AnswerIn answerIn
  rw [s_KindIn_eq h hq, bnd1_mk, s_SetOf_eq h.2, bnd1_mk, s_SetOf_eq h.2, bnd1_mk]
  cases decide (kindIn z q = 2) <;> cases decide (kindIn z q = 3) <;> rfl

theorem i_AnswerIn_eq {z : MZone} {q : Quest} (h : z.sm) (hq : q.sm) : i_AnswerIn z q = some (answerIn z q) := by
  unfold i_AnswerIn answerIn
  rw [i_KindIn_eq h hq, bnd1_mk, i_SetOf_eq h.2, bnd1_mk, i_SetOf_eq h.2, bnd1_mk]
  cases decide (kindIn z q = 2) <;> cases decide (kindIn z q = 3) <;> rfl

theorem smL_nil : smL [] := ⟨Nat.zero_le _, fun r hr => by cases hr⟩

def moreIn (z : MZone) (q : Quest) : List Rec := bif decide (kindIn z q = 1) then setOf z.l (cutOf z q.name).1 2 else (bif decide (kindIn z q = 4) || decide (kindIn z q = 5) then [first (fun r => decide (r.ty = 6)) z.l] else [])

theorem s_MoreIn_eq {z : MZone} {q : Quest} (h : z.sm) (hq : q.sm) : s_MoreIn z q = some (moreIn z q) := by
  unfold s_MoreIn moreIn s_MoreIn_j0
  have h2 := s_CutOf_eq h hq
  rw [s_KindIn_eq h hq, bnd1_mk]
  generalize kindIn z q = k
  generalize cutOf z q.name = x at h2
  obtain ⟨x, y⟩ := x
  rw [h2, bnd2_mk, s_SetOf_eq h.2, bnd1_mk, s_StartOf_eq, bnd1_mk]
  cases decide (k = 1) <;> cases decide (k = 4) <;> cases decide (k = 5) <;> rfl

theorem i_MoreIn_eq {z : MZone} {q : Quest} (h : z.sm) (hq : q.sm) : i_MoreIn z q = some (moreIn z q) := by
  unfold i_MoreIn moreIn i_MoreIn_j0
  have h2 := i_CutOf_eq h hq
  rw [i_KindIn_eq h hq, bnd1_mk]
  generalize kindIn z q = k
  generalize cutOf z q.name = x at h2
  obtain ⟨x, y⟩ := x
  rw [h2, bnd2_mk, i_SetOf_eq h.2, bnd1_mk, i_StartOf_eq, bnd1_mk]
  cases decide (k = 1) <;> cases decide (k = 4) <;> cases decide (k = 5) <;> rfl

theorem zrec_sm : zrec.sm := ⟨Nat.zero_le _, Nat.zero_le _, Nat.zero_le _⟩

theorem first_sm {p : Rec → Bool} {l : List Rec} (h : smL l) : (first p l).sm := by
  unfold first
  cases c : l.find? p with
  | none => exact zrec_sm
  | some r => exact h.2 r (List.mem_of_find?_eq_some c)

theorem moreIn_sm {z : MZone} (h : z.sm) (q : Quest) : smL (moreIn z q) := by
  unfold moreIn
  cases decide (kindIn z q = 1)
  · cases decide (kindIn z q = 4) || decide (kindIn z q = 5)
    · exact smL_nil
    · exact ⟨by simp, fun r hr => by rw [cond_false, cond_true, List.mem_singleton] at hr; rw [hr]; exact first_sm h.2⟩
  · exact setOf_sm h.2 _ _

def helpIn (z : MZone) (q : Quest) : List Rec := bif !decide (kindIn z q = 1) then [] else glueL z.l (hostsL (moreIn z q) [])

theorem s_HelpIn_eq {z : MZone} {q : Quest} (h : z.sm) (hq : q.sm) : s_HelpIn z q = some (helpIn z q) := by
  unfold s_HelpIn helpIn
  have hm := moreIn_sm h q
  rw [s_KindIn_eq h hq, bnd1_mk, s_MoreIn_eq h hq, bnd1_mk, s_Hosts_eq hm, bnd1_mk, s_Glue_eq h.2 (hostsL_sm hm).1, bnd1_mk]
  cases decide (kindIn z q = 1) <;> rfl

theorem i_HelpIn_eq {z : MZone} {q : Quest} (h : z.sm) (hq : q.sm) : i_HelpIn z q = some (helpIn z q) := by
  unfold i_HelpIn helpIn
  have hm := moreIn_sm h q
  rw [i_KindIn_eq h hq, bnd1_mk, i_MoreIn_eq h hq, bnd1_mk, i_Hosts_eq hm, bnd1_mk, i_Glue_eq h.2 (hostsL_sm hm).1, bnd1_mk]
  cases decide (kindIn z q = 1) <;> rfl

theorem glueL_mem {zl : List Rec} {l : List ByteArray} {r : Rec} (h : r ∈ glueL zl l) : r ∈ zl := by
  unfold glueL at h
  obtain ⟨x, -, hx⟩ := List.mem_flatMap.1 h
  exact (List.mem_filter.1 hx).1

theorem take8 {l : List Rec} : (l.drop ((0 : Nat) : Int).toNat).take ((if 8 < (l.length : Int) then 8 else (l.length : Int)).toNat - ((0 : Nat) : Int).toNat) = l.take 8 := by
  have e : ((0 : Nat) : Int).toNat = 0 := rfl
  rw [e, List.drop_zero, Nat.sub_zero]
  by_cases c : 8 < (l.length : Int)
  · rw [if_pos c]; rfl
  · rw [if_neg c, Int.toNat_natCast, List.take_length, List.take_of_length_le (by omega)]

theorem s_l7Copy_eq {l : List Rec} (h : l.length ≤ 1099511627776) : s_l7Copy l = some l := by
  unfold s_l7Copy; rw [List.nil_append, grd_pos h]

theorem s_l11First_eq {l : List Rec} : s_l11First l = some (l.take 8) := by
  unfold s_l11First
  rw [s_Least_eq]
  simp only [bnd1_mk]
  have e : (if 8 < (l.length : Int) then 8 else (l.length : Int)) = (if (8 : Int) < (l.length : Int) then 8 else (l.length : Int)) := rfl
  rw [take8, grd_pos (by split <;> omega), s_l7Copy_eq (by rw [List.length_take]; omega), bnd1_mk]

theorem i_some_eq {l : List Rec} : i_some l = some (l.take 8) := by
  unfold i_some
  rw [take8, grd_pos (by split <;> omega)]

def reply (m : MMsg) (k : Int) (a : Bool) (x y z : List Rec) : MMsg := MMsg.mk m.id true a false m.want false k m.q x y z

theorem s_ReplyTo_eq {m : MMsg} {k : Int} {a : Bool} {x y z : List Rec} (hx : x.length ≤ 1099511627776) (hy : y.length ≤ 1099511627776) (hz : z.length ≤ 1099511627776) : s_ReplyTo m k a x y z = some (reply m k a x y z) := by
  unfold s_ReplyTo; rw [s_l7Copy_eq hx, bnd1_mk, s_l7Copy_eq hy, bnd1_mk, s_l7Copy_eq hz, bnd1_mk]; rfl

theorem i_ReplyTo_eq {m : MMsg} {k : Int} {a : Bool} {x y z : List Rec} (hx : x.length ≤ 1099511627776) (hy : y.length ≤ 1099511627776) (hz : z.length ≤ 1099511627776) : i_ReplyTo m k a x y z = some (reply m k a x y z) := by
  unfold i_ReplyTo i_copyMsg; simp only [slices_Clone_Record_eq hx, slices_Clone_Record_eq hy, slices_Clone_Record_eq hz, bnd1_mk]; rfl

def serve (z : MZone) (m : MMsg) : MMsg :=
  reply m (bif decide (kindIn z m.q = 0) then 5 else (bif decide (kindIn z m.q = 5) then 3 else 0)) (!decide (kindIn z m.q = 0) && !decide (kindIn z m.q = 1)) ((answerIn z m.q).take 8) ((moreIn z m.q).take 8) ((helpIn z m.q).take 8)

theorem take8_len {l : List Rec} : (l.take 8).length ≤ 8 := by rw [List.length_take]; omega

theorem s_Serve_eq {z : MZone} {m : MMsg} (h : z.sm) (hq : m.q.sm) : s_Serve z m = some (serve z m) := by
  have h8 : ∀ l : List Rec, (l.take 8).length ≤ 1099511627776 := fun l => Nat.le_trans take8_len (by omega)
  unfold s_Serve s_Serve_j0 s_Serve_j1 serve
  rw [s_KindIn_eq h hq, bnd1_mk]
  simp only [s_AnswerIn_eq h hq, s_MoreIn_eq h hq, s_HelpIn_eq h hq, bnd1_mk, s_l11First_eq, s_ReplyTo_eq (h8 _) (h8 _) (h8 _)]
  generalize kindIn z m.q = k
  cases decide (k = 0) <;> cases decide (k = 1) <;> cases decide (k = 5) <;> rfl

theorem i_Serve_eq {z : MZone} {m : MMsg} (h : z.sm) (hq : m.q.sm) : i_Serve z m = some (serve z m) := by
  have h8 : ∀ l : List Rec, (l.take 8).length ≤ 1099511627776 := fun l => Nat.le_trans take8_len (by omega)
  unfold i_Serve i_Serve_j0 serve
  rw [i_KindIn_eq h hq, bnd1_mk]
  simp only [i_AnswerIn_eq h hq, i_MoreIn_eq h hq, i_HelpIn_eq h hq, bnd1_mk, i_some_eq, i_ReplyTo_eq (h8 _) (h8 _) (h8 _)]
  generalize kindIn z m.q = k
  cases decide (k = 0) <;> cases decide (k = 1) <;> cases decide (k = 5) <;> rfl

theorem segs_mem : ∀ (l cur x : List UInt8), x ∈ segs cur l → x.length ≤ cur.length + l.length
  | [], cur, x, h => by
    unfold segs at h
    rw [List.mem_singleton] at h
    subst h; simp
  | b :: l, cur, x, h => by
    unfold segs at h
    split at h
    · rcases List.mem_cons.1 h with h | h
      · subst h; simp
      · have := segs_mem l [] x h
        simp at this ⊢; omega
    · have := segs_mem l (cur ++ [b]) x h
      simp at this ⊢; omega

theorem labels_mem {s x : ByteArray} (h : x ∈ labels s) : x.size ≤ s.size := by
  unfold labels at h
  split at h
  · cases h
  · obtain ⟨y, hy, e⟩ := List.mem_map.1 h
    have h1 := segs_mem _ _ _ hy
    subst e
    rw [← bts_len, bts_mkB, ← bts_len s]
    simpa using h1

def chP (n : Int) : Bool := (decide (97 ≤ n) && decide (n ≤ 122)) || ((decide (48 ≤ n) && decide (n ≤ 57)) || (decide (n = 45) || decide (n = 95)))

def labelP (s : ByteArray) : Bool := ((bts s).all fun b => chP b.toNat) && (decide (1 ≤ (s.size : Int)) && decide ((s.size : Int) ≤ 12))

theorem drop_all {s : ByteArray} {i : Nat} {b : UInt8} {p : UInt8 → Bool} (h : (bts s)[i]? = some b) : ((bts s).drop i).all p = (p b && ((bts s).drop (i + 1)).all p) := by
  obtain ⟨h1, h2⟩ := List.getElem?_eq_some_iff.1 h
  rw [List.drop_eq_getElem_cons h1, List.all_cons, h2]

theorem bts_get {s : ByteArray} {i : Nat} (h : i < s.size) : ∃ b, (bts s)[i]? = some b := ⟨(bts s)[i]'h, List.getElem?_eq_getElem h⟩

theorem fuel_lt {k : Nat} (h : k ≤ 1048576) : k < fuel0 := by unfold fuel0; omega

theorem i_LabelOk_l1_eq {s : ByteArray} (hs : s.size ≤ 1048576) : ∀ (k i fl : Nat), s.size - i = k → i ≤ s.size → k < fl → i_LabelOk_l1 s fl (i : Int) = some (((bts s).drop i).all (fun b => chP b.toNat) && (decide (1 ≤ (s.size : Int)) && decide ((s.size : Int) ≤ 12)))
  | 0, i, fl, hk, hi, hf => by
    obtain ⟨fl, rfl⟩ : ∃ q, fl = q + 1 := ⟨fl - 1, by omega⟩
    have c : ¬ ((i : Int) < (s.size : Int)) := by omega
    have e : (bts s).drop i = [] := List.drop_eq_nil_of_le (by rw [bts_len]; omega)
    rw [i_LabelOk_l1, decide_eq_false c, cond_false, e]
    unfold i_LabelOk_j0
    cases decide (1 ≤ (s.size : Int)) <;> rfl
  | k + 1, i, fl, hk, hi, hf => by
    obtain ⟨fl, rfl⟩ : ∃ q, fl = q + 1 := ⟨fl - 1, by omega⟩
    have c : (i : Int) < (s.size : Int) := by omega
    obtain ⟨b, hb⟩ := bts_get (s := s) (i := i) (by omega)
    have h := i_LabelOk_l1_eq hs k (i + 1) fl (by omega) (by omega) (by omega)
    rw [i_LabelOk_l1, decide_eq_true c, cond_true, sidx_nat hb, bnd1_mk]
    have e : ((i : Int) + 1) = ((i + 1 : Nat) : Int) := by omega
    have hj : ∀ y : Bool, i_LabelOk_j2 (i : Int) (i_LabelOk_l1 s fl) y = some (!y && (((bts s).drop (i + 1)).all (fun b => chP b.toNat) && (decide (1 ≤ (s.size : Int)) && decide ((s.size : Int) ≤ 12)))) := by
      intro y
      unfold i_LabelOk_j2
      rw [grd_pos (by simp only [i64]; omega), e, h]
      cases y <;> rfl
    simp only [hj]
    rw [drop_all hb]
    have hc : chP b.toNat = !(((decide ((b.toNat : Int) < 97)) || decide (122 < (b.toNat : Int))) && ((decide ((b.toNat : Int) < 48) || decide (57 < (b.toNat : Int))) && ((!decide ((b.toNat : Int) = 45)) && !decide ((b.toNat : Int) = 95)))) := by
      have e1 : decide (97 ≤ (b.toNat : Int)) = !decide ((b.toNat : Int) < 97) := by by_cases c : (b.toNat : Int) < 97 <;> simp [c] <;> omega
      have e2 : decide ((b.toNat : Int) ≤ 122) = !decide (122 < (b.toNat : Int)) := by by_cases c : 122 < (b.toNat : Int) <;> simp [c] <;> omega
      have e3 : decide (48 ≤ (b.toNat : Int)) = !decide ((b.toNat : Int) < 48) := by by_cases c : (b.toNat : Int) < 48 <;> simp [c] <;> omega
      have e4 : decide ((b.toNat : Int) ≤ 57) = !decide (57 < (b.toNat : Int)) := by by_cases c : 57 < (b.toNat : Int) <;> simp [c] <;> omega
      unfold chP
      rw [e1, e2, e3, e4]
      cases decide ((b.toNat : Int) < 97) <;> cases decide (122 < (b.toNat : Int)) <;> cases decide ((b.toNat : Int) < 48) <;> cases decide (57 < (b.toNat : Int)) <;> cases decide ((b.toNat : Int) = 45) <;> cases decide ((b.toNat : Int) = 95) <;> rfl
    rw [hc]
    rw [Bool.and_assoc]
    generalize (((bts s).drop (i + 1)).all (fun b => chP b.toNat) && (decide (1 ≤ (s.size : Int)) && decide ((s.size : Int) ≤ 12))) = R
    cases decide ((b.toNat : Int) < 97) <;> cases decide (122 < (b.toNat : Int)) <;> cases decide ((b.toNat : Int) < 48) <;> cases decide (57 < (b.toNat : Int)) <;> cases decide ((b.toNat : Int) = 45) <;> cases decide ((b.toNat : Int) = 95) <;> rfl

theorem i_LabelOk_eq {s : ByteArray} (hs : s.size ≤ 1048576) : i_LabelOk s = some (labelP s) := by
  have h := i_LabelOk_l1_eq hs s.size 0 fuel0 (by omega) (by omega) (fuel_lt hs)
  unfold i_LabelOk
  exact h

def nameP (s : ByteArray) : Bool := (labels s).all labelP && (decide ((s.size : Int) ≤ 50) && decide (((labels s).length : Int) ≤ 6))

theorem slices_IndexFunc_string_l0_eq {g : ByteArray → Option Bool} {p : ByteArray → Bool} : ∀ (l : List ByteArray) (i : Nat), (∀ r, r ∈ l → g r = some (p r)) → ∃ v, slices_IndexFunc_string_l0 g l i = some v ∧ decide (0 ≤ v) = l.any p
  | [], i, _ => ⟨-1, rfl, rfl⟩
  | r :: l, i, h => by
    rw [slices_IndexFunc_string_l0, h r (.head _), bnd1_mk]
    cases c : p r with
    | true => exact ⟨i, rfl, by simp [c]⟩
    | false =>
      obtain ⟨v, h1, h2⟩ := slices_IndexFunc_string_l0_eq l (i + 1) fun q hq => h q (.tail _ hq)
      exact ⟨v, h1, by simp [c, h2]⟩

theorem slices_ContainsFunc_string_eq {g : ByteArray → Option Bool} {p : ByteArray → Bool} {l : List ByteArray} (h : ∀ r, r ∈ l → g r = some (p r)) : slices_ContainsFunc_string l g = some (l.any p) := by
  obtain ⟨v, h1, h2⟩ := slices_IndexFunc_string_l0_eq l 0 h
  unfold slices_ContainsFunc_string slices_IndexFunc_string
  rw [h1, bnd1_mk, h2]

theorem any_not_all {α : Type} (p : α → Bool) : ∀ l : List α, (!l.any fun x => !p x) = l.all p
  | [] => rfl
  | x :: l => by rw [List.any_cons, List.all_cons, ← any_not_all p l]; cases p x <;> simp

theorem i_NameOk_eq {s : ByteArray} (hs : s.size ≤ 1048576) : i_NameOk s = some (nameP s) := by
  unfold i_NameOk nameP
  rw [i_Labels_eq hs, bnd1_mk, slices_ContainsFunc_string_eq (p := fun x => !labelP x) fun r hr => by unfold i_NameOk_1; rw [i_LabelOk_eq (Nat.le_trans (labels_mem hr) hs)]; rfl, bnd1_mk, any_not_all]
  cases decide ((s.size : Int) ≤ 50) <;> cases decide (((labels s).length : Int) ≤ 6) <;> cases (labels s).all labelP <;> rfl

def typeP (k : Int) : Bool := decide (k = 1) || (decide (k = 2) || (decide (k = 5) || (decide (k = 6) || decide (k = 16))))

theorem i_TypeOk_eq {k : Int} : i_TypeOk k = some (typeP k) := by
  have e : ∀ a : ByteArray, bnd1 (some a) (fun x1 => some (!decide (x1 = (⟨#[]⟩ : ByteArray)))) = some (!decide (a = (⟨#[]⟩ : ByteArray))) := fun _ => rfl
  unfold i_TypeOk i_TypeText typeP
  cases decide (k = 1) <;> cases decide (k = 2) <;> cases decide (k = 5) <;> cases decide (k = 6) <;> cases decide (k = 16) <;> rfl

def questP (q : Quest) : Bool := nameP q.name && typeP q.ty

theorem i_QuestOk_eq {q : Quest} (h : q.sm) : i_QuestOk q = some (questP q) := by
  unfold i_QuestOk questP
  rw [i_NameOk_eq h, bnd1_mk, i_TypeOk_eq]
  cases nameP q.name <;> rfl

theorem textTail {s : ByteArray} {i : Nat} (h : ¬ ((i : Int) < (s.size : Int))) : (bts s).drop i = [] := List.drop_eq_nil_of_le (by rw [bts_len]; omega)

def txP (n : Int) : Bool := decide (33 ≤ n) && decide (n ≤ 126)

def textP (s : ByteArray) : Bool := ((bts s).all fun b => txP b.toNat) && decide ((s.size : Int) ≤ 12)

theorem i_isText_l1_eq {s : ByteArray} (hs : s.size ≤ 1048576) : ∀ (k i fl : Nat), s.size - i = k → i ≤ s.size → k < fl → i_isText_l1 s fl (i : Int) = some (((bts s).drop i).all (fun b => txP b.toNat) && decide ((s.size : Int) ≤ 12))
  | 0, i, fl, hk, hi, hf => by
    obtain ⟨fl, rfl⟩ : ∃ q, fl = q + 1 := ⟨fl - 1, by omega⟩
    have c : ¬ ((i : Int) < (s.size : Int)) := by omega
    rw [i_isText_l1, decide_eq_false c, cond_false, textTail c]
    rfl
  | k + 1, i, fl, hk, hi, hf => by
    obtain ⟨fl, rfl⟩ : ∃ q, fl = q + 1 := ⟨fl - 1, by omega⟩
    have c : (i : Int) < (s.size : Int) := by omega
    obtain ⟨b, hb⟩ := bts_get (s := s) (i := i) (by omega)
    have h := i_isText_l1_eq hs k (i + 1) fl (by omega) (by omega) (by omega)
    have e : ((i : Int) + 1) = ((i + 1 : Nat) : Int) := by omega
    have hj : ∀ y : Bool, i_isText_j2 (i : Int) (i_isText_l1 s fl) y = some (!y && (((bts s).drop (i + 1)).all (fun b => txP b.toNat) && decide ((s.size : Int) ≤ 12))) := by
      intro y
      unfold i_isText_j2
      rw [grd_pos (by simp only [i64]; omega), e, h]
      cases y <;> rfl
    rw [i_isText_l1, decide_eq_true c, cond_true, sidx_nat hb, bnd1_mk, bnd1_mk, hj, hj, drop_all hb, Bool.and_assoc]
    have e1 : decide (33 ≤ (b.toNat : Int)) = !decide ((b.toNat : Int) < 33) := by by_cases c : (b.toNat : Int) < 33 <;> simp [c] <;> omega
    have e2 : decide ((b.toNat : Int) ≤ 126) = !decide (126 < (b.toNat : Int)) := by by_cases c : 126 < (b.toNat : Int) <;> simp [c] <;> omega
    unfold txP
    rw [e1, e2]
    generalize (((bts s).drop (i + 1)).all (fun b => decide (33 ≤ (b.toNat : Int)) && decide ((b.toNat : Int) ≤ 126)) && decide ((s.size : Int) ≤ 12)) = R
    cases decide ((b.toNat : Int) < 33) <;> cases decide (126 < (b.toNat : Int)) <;> rfl

theorem i_isText_eq {s : ByteArray} (hs : s.size ≤ 1048576) : i_isText s = some (textP s) := by
  have h := i_isText_l1_eq hs s.size 0 fuel0 (by omega) (by omega) (fuel_lt hs)
  unfold i_isText
  exact h

def inP (a b c : Int) : Bool := decide (b ≤ a) && decide (a ≤ c)

theorem i_isTtl_eq {a : Int} : i_isTtl a = some (inP a 0 100000) := by
  unfold i_isTtl inP; cases decide (0 ≤ a) <;> rfl

theorem i_isFour_eq {a : Int} : i_isFour a = some (inP a 0 2147483647) := by
  unfold i_isFour inP; cases decide (0 ≤ a) <;> rfl

def nilP (s : ByteArray) : Bool := decide (s = (⟨#[]⟩ : ByteArray))

def recP (r : Rec) : Bool :=
  nameP r.name && (inP r.ttl 0 100000 && (bif decide (r.ty = 1) then inP r.n 0 2147483647 && (nilP r.host && nilP r.text) else (bif decide (r.ty = 2) || decide (r.ty = 5) then decide (r.n = 0) && (nameP r.host && nilP r.text)
    else (bif decide (r.ty = 6) then inP r.n 0 100000 && (nameP r.host && nilP r.text) else decide (r.ty = 16) && (decide (r.n = 0) && (nilP r.host && textP r.text))))))

theorem i_RecordOk_eq {r : Rec} (h : r.sm) : i_RecordOk r = some (recP r) := by
  obtain ⟨h1, h2, h3⟩ := h
  unfold i_RecordOk i_RecordOk_j0 i_RecordOk_j1 recP nilP
  rw [i_NameOk_eq h1, bnd1_mk, i_isTtl_eq, bnd1_mk, i_isFour_eq, bnd1_mk, i_isTtl_eq, bnd1_mk, i_NameOk_eq h2, bnd1_mk, i_isText_eq h3, bnd1_mk]
  generalize inP r.ttl 0 100000 = a
  generalize inP r.n 0 2147483647 = b
  generalize inP r.n 0 100000 = d
  cases nameP r.name <;> cases a <;> cases decide (r.ty = 1) <;> cases decide (r.ty = 2) <;> cases decide (r.ty = 5) <;> cases decide (r.ty = 6) <;> cases decide (r.ty = 16) <;> try rfl
  all_goals (cases b <;> cases d <;> cases decide (r.n = 0) <;> cases nameP r.host <;> cases decide (r.host = (⟨#[]⟩ : ByteArray)) <;> rfl)

def listP (k : Int) (l : List Rec) : Bool := l.all recP && decide ((l.length : Int) ≤ k)

theorem i_allOk_eq {l : List Rec} {k : Int} (h : smL l) : i_allOk l k = some (listP k l) := by
  unfold i_allOk listP
  rw [slices_ContainsFunc_Record_eq (p := fun r => !recP r) fun r hr => by unfold i_allOk_1; rw [i_RecordOk_eq (h.2 r hr)]; rfl, bnd1_mk, any_not_all]
  cases decide ((l.length : Int) ≤ k) <;> cases l.all recP <;> rfl

def Cur.inv (c : Cur) : Prop := 0 ≤ c.i ∧ c.b.length ≤ 1048576

theorem iand_255 (x : Int) : 0 ≤ iand .i64 x 255 ∧ iand .i64 x 255 ≤ 255 := by
  unfold iand
  have h : (BitVec.ofInt (IntKind.i64).bits x &&& BitVec.ofInt (IntKind.i64).bits 255).toNat ≤ 255 := by
    rw [BitVec.toNat_and]; exact Nat.le_trans Nat.and_le_right (by decide)
  generalize (BitVec.ofInt (IntKind.i64).bits x &&& BitVec.ofInt (IntKind.i64).bits 255).toNat = n at h
  rw [wrap_id (by omega)]; omega

theorem idx_ok {α : Type} {l : List α} {i : Int} (h0 : 0 ≤ i) (h1 : i < l.length) : ∃ x, idx l i = some x ∧ x ∈ l := by
  have h2 : i.toNat < l.length := by omega
  exact ⟨l[i.toNat], by unfold idx; rw [if_pos h0, List.getElem?_eq_getElem h2], List.getElem_mem h2⟩

theorem s_l1Byte_p {c : Cur} (h : c.inv) : ∃ x d, s_l1Byte c = some (x, d) ∧ d.inv ∧ 0 ≤ x ∧ x ≤ 255 := by
  obtain ⟨h1, h2⟩ := h
  unfold s_l1Byte
  by_cases p : c.i < (c.b.length : Int)
  · obtain ⟨y, hy, -⟩ := idx_ok h1 p
    rw [decide_eq_true p, cond_true, hy, bnd1_mk]
    exact ⟨_, _, rfl, ⟨by show 0 ≤ IntKind.i64.wrap (c.i + 1); rw [wrap_id (by omega)]; omega, h2⟩, (iand_255 _).1, (iand_255 _).2⟩
  · rw [decide_eq_false p, cond_false]
    exact ⟨_, _, rfl, ⟨h1, h2⟩, (iand_255 _).1, (iand_255 _).2⟩

theorem s_l1Below_p {c : Cur} {n : Int} (h : c.inv) (h1 : 0 < n) (h2 : n ≤ 256) : ∃ x d, s_l1Below c n = some (x, d) ∧ d.inv ∧ 0 ≤ x ∧ x < n := by
  obtain ⟨x, d, e, hd, hx, hy⟩ := s_l1Byte_p h
  have c1 : ¬ (n ≤ 0) := by omega
  unfold s_l1Below
  rw [decide_eq_false c1, cond_false, decide_eq_true h2, cond_true, e, bnd2_mk, grd_pos (by omega)]
  exact ⟨_, _, rfl, hd, Int.tmod_nonneg n hx, Int.tmod_lt_of_pos x h1⟩

theorem s_l1Once_p {c : Cur} {n : Int} (h : c.inv) (h1 : 0 < n) (h2 : n ≤ 256) : ∃ x d, s_l1Once c n = some (x, d) ∧ d.inv := by
  obtain ⟨x, d, e, hd, -, -⟩ := s_l1Below_p h h1 h2
  unfold s_l1Once
  rw [e, bnd2_mk]
  exact ⟨_, _, rfl, hd⟩

theorem s_l1Str_p {c : Cur} {l : List ByteArray} (h : c.inv) (h1 : 0 < l.length) (h2 : l.length ≤ 256) : ∃ x d, s_l1Str c l = some (x, d) ∧ d.inv ∧ x ∈ l := by
  obtain ⟨x, d, e, hd, hx, hy⟩ := s_l1Below_p (n := (l.length : Int)) h (by omega) (by omega)
  obtain ⟨y, e2, hm⟩ := idx_ok hx hy
  unfold s_l1Str
  rw [e, bnd2_mk, e2, bnd1_mk]
  exact ⟨_, _, rfl, hd, hm⟩

theorem s_l1Int_p {c : Cur} {l : List Int} (h : c.inv) (h1 : 0 < l.length) (h2 : l.length ≤ 256) : ∃ x d, s_l1Int c l = some (x, d) ∧ d.inv ∧ x ∈ l := by
  obtain ⟨x, d, e, hd, hx, hy⟩ := s_l1Below_p (n := (l.length : Int)) h (by omega) (by omega)
  obtain ⟨y, e2, hm⟩ := idx_ok hx hy
  unfold s_l1Int
  rw [e, bnd2_mk, e2, bnd1_mk]
  exact ⟨_, _, rfl, hd, hm⟩

theorem small_of {l : List ByteArray} {x : ByteArray} (h : (l.all fun y => Nat.ble y.size 1048576) = true) (hx : x ∈ l) : x.size ≤ 1048576 := Nat.le_of_ble_eq_true (List.all_eq_true.1 h x hx)

theorem s_l5Type_p {c : Cur} (h : c.inv) : ∃ x d, s_l5Type c = some (x, d) ∧ d.inv ∧ x ∈ [1, 1, 1, 2, 2, 5, 6, 16] := by
  obtain ⟨x, d, e, hd, hm⟩ := s_l1Int_p (l := [1, 1, 1, 2, 2, 5, 6, 16]) h (by decide) (by decide)
  unfold s_l5Type
  rw [e, bnd2_mk]
  exact ⟨_, _, rfl, hd, hm⟩

theorem s_l1New_l1_p {b : List Int} (hb : b.length ≤ 1048576) : ∀ (k fl i : Nat) (h : Int), b.length - i = k → i ≤ b.length → k < fl → ∃ c, s_l1New_l1 b fl h (i : Int) = some c ∧ c.inv
  | 0, fl, i, h, hk, hi, hf => by
    obtain ⟨fl, rfl⟩ : ∃ q, fl = q + 1 := ⟨fl - 1, by omega⟩
    have c1 : ¬ ((i : Int) < (b.length : Int)) := by omega
    rw [s_l1New_l1, decide_eq_false c1, cond_false]
    exact ⟨_, rfl, Int.le_refl 0, hb⟩
  | k + 1, fl, i, h, hk, hi, hf => by
    obtain ⟨fl, rfl⟩ : ∃ q, fl = q + 1 := ⟨fl - 1, by omega⟩
    have c1 : (i : Int) < (b.length : Int) := by omega
    rw [s_l1New_l1, decide_eq_true c1, cond_true]
    unfold s_l1New_j2
    cases decide ((i : Int) < 4000) with
    | false => exact ⟨_, rfl, Int.le_refl 0, hb⟩
    | true =>
      obtain ⟨x, hx, -⟩ := idx_ok (l := b) (i := (i : Int)) (by omega) c1
      have e : IntKind.i64.wrap ((i : Int) + 1) = ((i + 1 : Nat) : Int) := by rw [wrap_id (by omega)]; omega
      rw [cond_true, hx, bnd1_mk, e]
      exact s_l1New_l1_p hb k fl (i + 1) _ (by omega) (by omega) (by omega)

theorem s_l1New_p {b : List Int} (hb : b.length ≤ 1048576) : ∃ c, s_l1New b = some c ∧ c.inv := s_l1New_l1_p hb b.length fuel0 0 _ (by omega) (by omega) (fuel_lt hb)

theorem w_sameRecs_l0_self : ∀ (t pre : List Rec), w_sameRecs_l0 (pre ++ t) t pre.length = some true
  | [], pre => rfl
  | r :: t, pre => by
    have h := w_sameRecs_l0_self t (pre ++ [r])
    rw [w_sameRecs_l0, idx_nat, get_app, bnd1_mk, rec_ext, decide_eq_true rfl, Bool.not_true, cond_false]
    simpa using h

theorem w_sameRecs_self {l : List Rec} : w_sameRecs l l = some true := by
  unfold w_sameRecs
  rw [decide_eq_true rfl, Bool.not_true, cond_false]
  exact w_sameRecs_l0_self l []

theorem bL_irr : ∀ x : List UInt8, Op.bytesLess x x = false
  | [] => rfl
  | a :: x => by simp [Op.bytesLess, bL_irr x, UInt8.lt_irrefl]

theorem bL_trans : ∀ x y z : List UInt8, Op.bytesLess x y = true → Op.bytesLess y z = true → Op.bytesLess x z = true
  | [], [], _, h, _ => by simp [Op.bytesLess] at h
  | [], _ :: _, [], _, h => by simp [Op.bytesLess] at h
  | [], _ :: _, _ :: _, _, _ => rfl
  | _ :: _, [], _, h, _ => by simp [Op.bytesLess] at h
  | _ :: _, _ :: _, [], _, h => by simp [Op.bytesLess] at h
  | a :: x, b :: y, c :: z, h, k => by
    simp only [Op.bytesLess, Bool.or_eq_true, decide_eq_true_eq, Bool.and_eq_true, beq_iff_eq] at h k ⊢
    rcases h with h | ⟨h, h'⟩ <;> rcases k with k | ⟨k, k'⟩
    · exact .inl (UInt8.lt_trans h k)
    · exact .inl (k ▸ h)
    · exact .inl (h ▸ k)
    · exact .inr ⟨h.trans k, bL_trans x y z h' k'⟩

def bl (a b : ByteArray) : Bool := Op.bytesLess (bts a) (bts b)

theorem bl_eq {a b : ByteArray} : Op.bytesLess a.toList b.toList = bl a b := by unfold bl bts; rw [ByteArray.toList_eq, ByteArray.toList_eq]

theorem bl_irr (a : ByteArray) : bl a a = false := bL_irr _

theorem bl_trans (a b c : ByteArray) (h : bl a b = true) (k : bl b c = true) : bl a c = true := bL_trans _ _ _ h k

def lexN : List ByteArray → List ByteArray → Bool
  | _, [] => false
  | [], _ :: _ => true
  | x :: xs, y :: ys => if x = y then lexN xs ys else bl x y

theorem lexN_irr : ∀ x : List ByteArray, lexN x x = false
  | [] => rfl
  | a :: x => by simp [lexN, lexN_irr x]

theorem lexN_trans : ∀ x y z : List ByteArray, lexN x y = true → lexN y z = true → lexN x z = true
  | [], [], _, h, _ => by simp [lexN] at h
  | [], _ :: _, [], _, h => by simp [lexN] at h
  | [], _ :: _, _ :: _, _, _ => rfl
  | _ :: _, [], _, h, _ => by simp [lexN] at h
  | _ :: _, _ :: _, [], _, h => by simp [lexN] at h
  | a :: x, b :: y, c :: z, h, k => by
    unfold lexN at h k ⊢
    by_cases e1 : a = b
    · subst e1
      rw [if_pos rfl] at h
      by_cases e2 : a = c
      · rw [if_pos e2] at k ⊢; exact lexN_trans x y z h k
      · rw [if_neg e2] at k ⊢; exact k
    · rw [if_neg e1] at h
      by_cases e2 : b = c
      · subst e2; rw [if_neg e1]; exact h
      · rw [if_neg e2] at k
        have h3 := bl_trans a b c h k
        by_cases e3 : a = c
        · subst e3; rw [bl_irr] at h3; cases h3
        · rw [if_neg e3]; exact h3

def lessN (a b : ByteArray) : Bool := lexN (labels a).reverse (labels b).reverse

theorem lessN_irr (a : ByteArray) : lessN a a = false := lexN_irr _

theorem lessN_trans (a b c : ByteArray) (h : lessN a b = true) (k : lessN b c = true) : lessN a c = true := lexN_trans _ _ _ h k

theorem s_LessName_l1_eq (x y : List ByteArray) (hx : x.length ≤ 2097152) (hy : y.length ≤ 2097152) (fl : Nat) : ∀ (k i : Nat), x.length - i = k → i ≤ x.length → i ≤ y.length → k + 1 < fl → s_LessName_l1 x y fl ((i : Int) + 1) = some (lexN (x.reverse.drop i) (y.reverse.drop i)) := by
  induction fl with
  | zero => intro k i _ _ _ h; omega
  | succ fl IH =>
    intro k i hk hi hi' hfl
    rw [s_LessName_l1]
    unfold s_LessName_j2 s_LessName_j0
    by_cases c1 : i = x.length
    · have e1 : x.reverse.drop i = [] := List.drop_eq_nil_of_le (by simp; omega)
      have h1 : ¬ ((i : Int) + 1 ≤ (x.length : Int)) := by omega
      simp only [h1, decide_false, cond_false, e1]
      by_cases c2 : i = y.length
      · have e2 : y.reverse.drop i = [] := List.drop_eq_nil_of_le (by simp; omega)
        have h2 : ¬ ((x.length : Int) < (y.length : Int)) := by omega
        simp [e2, lexN, h2]
      · have hlt : i < y.reverse.length := by simp; omega
        rw [List.drop_eq_getElem_cons hlt]
        have h2 : ((x.length : Int) < (y.length : Int)) := by omega
        simp [lexN, h2]
    · have h1 : ((i : Int) + 1 ≤ (x.length : Int)) := by omega
      have hltx : i < x.reverse.length := by simp; omega
      simp only [h1, decide_true, cond_true]
      by_cases c2 : i = y.length
      · have h2 : ¬ ((i : Int) + 1 ≤ (y.length : Int)) := by omega
        have e2 : y.reverse.drop i = [] := List.drop_eq_nil_of_le (by simp; omega)
        have h3 : ¬ ((x.length : Int) < (y.length : Int)) := by omega
        have e3 : ∀ l : List ByteArray, lexN l [] = false := fun l => by cases l <;> rfl
        simp [h2, e2, h3, e3]
      · have h2 : ((i : Int) + 1 ≤ (y.length : Int)) := by omega
        have hlty : i < y.reverse.length := by simp; omega
        have ix : idx x ((x.length : Int) - ((i : Int) + 1)) = some x.reverse[i] := by
          rw [show (x.length : Int) - ((i : Int) + 1) = (x.length : Int) - ((i + 1 : Nat) : Int) by omega, idx_sub (by omega), List.getElem?_eq_getElem (by omega), List.getElem_reverse]
          congr 1; congr 1; omega
        have iy : idx y ((y.length : Int) - ((i : Int) + 1)) = some y.reverse[i] := by
          rw [show (y.length : Int) - ((i : Int) + 1) = (y.length : Int) - ((i + 1 : Nat) : Int) by omega, idx_sub (by omega), List.getElem?_eq_getElem (by omega), List.getElem_reverse]
          congr 1; congr 1; omega
        simp only [h2, decide_true, cond_true, ix, iy, bnd1_mk]
        rw [grd_pos (by simp only [i64]; omega), grd_pos (by simp only [i64]; omega), List.drop_eq_getElem_cons hltx, List.drop_eq_getElem_cons hlty, lexN, bl_eq]
        by_cases ce : x.reverse[i] = y.reverse[i]
        · have ih := IH (k - 1) (i + 1) (by omega) (by omega) (by omega) (by omega)
          have e9 : (i : Int) + 1 + 1 = ((i + 1 : Nat) : Int) + 1 := by omega
          have g9 : i64 ((i : Int) + 1 + 1) := by constructor <;> omega
          simp only [ce, decide_true, Bool.not_true, cond_false, if_true, grd_pos g9]
          rw [e9]; exact ih
        · simp only [ce, decide_false, Bool.not_false, cond_true, if_false]

theorem s_LessName_eq {a b : ByteArray} (ha : a.size ≤ 1048576) (hb : b.size ≤ 1048576) : s_LessName a b = some (lessN a b) := by
  have h1 := labels_len a
  have h2 := labels_len b
  unfold s_LessName
  rw [s_Labels_eq ha, bnd1_mk, s_Labels_eq hb, bnd1_mk]
  have := s_LessName_l1_eq (labels a) (labels b) (by omega) (by omega) fuel0 _ 0 rfl (Nat.zero_le _) (Nat.zero_le _) (by unfold fuel0; omega)
  unfold lessN
  simpa using this

def lx {α : Type} [DecidableEq α] (lt : α → α → Bool) (x y : α) (r : Bool) : Bool := if x = y then r else lt x y

def lti (a b : Int) : Bool := decide (a < b)

def lessR (a b : Rec) : Bool := lx lessN a.name b.name (lx lti a.ty b.ty (lx lti a.n b.n (lx lessN a.host b.host (lx bl a.text b.text (lti a.ttl b.ttl)))))

theorem s_LessRecord_eq {a b : Rec} (ha : a.sm) (hb : b.sm) : s_LessRecord a b = some (lessR a b) := by
  unfold s_LessRecord lessR lx lti
  rw [s_LessName_eq ha.1 hb.1, s_LessName_eq ha.2.1 hb.2.1, bl_eq]
  by_cases c1 : a.name = b.name <;> by_cases c2 : a.ty = b.ty <;> by_cases c3 : a.n = b.n <;> by_cases c4 : a.host = b.host <;> by_cases c5 : a.text = b.text <;> simp [c1, c2, c3, c4, c5]

def lt (a b : Rec) : Prop := lessR a b = true

theorem name_or {a b : Rec} (h : lt a b) : a.name = b.name ∨ lessN a.name b.name = true := by
  unfold lt lessR lx at h
  by_cases c : a.name = b.name
  · exact .inl c
  · rw [if_neg c] at h; exact .inr h

theorem between {a b c : Rec} (h : lt a b) (k : lt b c) (e : a.name = c.name) (e' : a.ty = c.ty) : b.name = a.name ∧ b.ty = a.ty := by
  have h1 : a.name = b.name := by
    rcases name_or h with h1 | h1
    · exact h1
    · rcases name_or k with h2 | h2
      · rw [e, h2, lessN_irr] at h1; cases h1
      · have := lessN_trans _ _ _ h1 h2
        rw [e, lessN_irr] at this; cases this
  refine ⟨h1.symm, ?_⟩
  unfold lt lessR lx at h k
  rw [if_pos h1] at h
  rw [if_pos (h1.symm.trans e)] at k
  by_cases c1 : a.ty = b.ty
  · exact c1.symm
  · rw [if_neg c1] at h
    by_cases c2 : b.ty = c.ty
    · exact c2.trans e'.symm
    · rw [if_neg c2] at k
      simp only [lti, decide_eq_true_eq] at h k; omega

theorem w_big_eq {p : List Int} : w_big p = some (decide (1048576 < (p.length : Int))) := rfl

theorem s_SortRecords_j1_eq {v : List Rec} {i : Nat} {e : Rec} {K : List Rec → Nat → Option (List Rec)} {j : Nat} (hj : j ≤ v.length) (hv : v.length ≤ 1000) : s_SortRecords_j1 v i e K (j : Int) = K ((v.take j ++ [e]) ++ v.drop j) (i + 1) := by
  have e1 : (v.drop (0 + ((0 : Nat) : Int).toNat)).take ((j : Int).toNat - ((0 : Nat) : Int).toNat) = v.take j := by simp
  have e2 : (v.drop (0 + (j : Int).toNat)).take ((v.length : Int).toNat - (j : Int).toNat) = v.drop j := by
    rw [Int.toNat_natCast, Int.toNat_natCast, Nat.zero_add]; exact List.take_of_length_le (by simp)
  have l1 : (v.take j).length = j := by rw [List.length_take]; omega
  have l2 : (v.drop j).length = v.length - j := List.length_drop
  unfold s_SortRecords_j1
  rw [e1, e2, List.nil_append, grd_pos (by omega), grd_pos (by omega), grd_pos (by simp only [List.length_append, List.length_singleton]; omega), grd_pos (by omega), grd_pos (by simp only [List.length_append, List.length_singleton]; omega)]

theorem s_SortRecords_l2_p {v : List Rec} {i : Nat} {e : Rec} {K : List Rec → Nat → Option (List Rec)} (hv : v.length ≤ 1000) (hs : ∀ r, r ∈ v → r.sm) (he : e.sm) : ∀ (k fl : Nat), k ≤ v.length → k < fl → ∃ j, j ≤ v.length ∧ s_SortRecords_l2 v i e K fl (k : Int) = K ((v.take j ++ [e]) ++ v.drop j) (i + 1)
  | 0, fl, hk, hf => by
    obtain ⟨fl, rfl⟩ : ∃ q, fl = q + 1 := ⟨fl - 1, by omega⟩
    refine ⟨0, by omega, ?_⟩
    rw [s_SortRecords_l2]
    unfold s_SortRecords_j3
    exact s_SortRecords_j1_eq (j := 0) (by omega) hv
  | k + 1, fl, hk, hf => by
    obtain ⟨fl, rfl⟩ : ∃ q, fl = q + 1 := ⟨fl - 1, by omega⟩
    have c1 : (0 : Int) < ((k + 1 : Nat) : Int) := by omega
    have e9 : ((k + 1 : Nat) : Int) - 1 = (k : Int) := by omega
    obtain ⟨x, e1, hx⟩ := idx_ok (l := v) (i := (k : Int)) (by omega) (by omega)
    rw [s_SortRecords_l2, decide_eq_true c1, cond_true, e9, grd_pos (by simp only [i64]; omega), e1, bnd1_mk, s_LessRecord_eq he (hs x hx), bnd1_mk]
    unfold s_SortRecords_j3
    cases lessR e x with
    | true =>
      obtain ⟨j, h1, h2⟩ := s_SortRecords_l2_p (i := i) (K := K) hv hs he k fl (by omega) (by omega)
      refine ⟨j, h1, ?_⟩
      rw [cond_true, e9, grd_pos (by simp only [i64]; omega)]
      exact h2
    | false => exact ⟨k + 1, hk, s_SortRecords_j1_eq hk hv⟩

theorem s_SortRecords_l0_p : ∀ (l v : List Rec) (i : Nat), (∀ r, r ∈ v → r.sm) → (∀ r, r ∈ l → r.sm) → v.length + l.length ≤ 1000 → ∃ m, s_SortRecords_l0 l v i = some m ∧ m.length = v.length + l.length ∧ ∀ r, r ∈ m → r ∈ v ∨ r ∈ l
  | [], v, i, _, _, _ => ⟨v, rfl, rfl, fun r hr => .inl hr⟩
  | e :: l, v, i, hv, hl, hn => by
    simp only [List.length_cons] at hn
    obtain ⟨j, h1, h2⟩ := s_SortRecords_l2_p (i := i) (K := s_SortRecords_l0 l) (by omega) hv (hl e (.head _)) v.length fuel0 (Nat.le_refl _) (fuel_lt (by omega))
    have hm : ∀ r, r ∈ (v.take j ++ [e]) ++ v.drop j → r ∈ v ∨ r = e := fun r hr => by
      rcases List.mem_append.1 hr with hr | hr
      · rcases List.mem_append.1 hr with hr | hr
        · exact .inl (List.mem_of_mem_take hr)
        · exact .inr (List.mem_singleton.1 hr)
      · exact .inl (List.mem_of_mem_drop hr)
    have hlen : ((v.take j ++ [e]) ++ v.drop j).length = v.length + 1 := by
      simp only [List.length_append, List.length_singleton, List.length_take, List.length_drop]; omega
    obtain ⟨m, g1, g2, g3⟩ := s_SortRecords_l0_p l ((v.take j ++ [e]) ++ v.drop j) (i + 1) (fun r hr => by
      rcases hm r hr with h | rfl
      · exact hv r h
      · exact hl r (.head _)) (fun r hr => hl r (.tail _ hr)) (by omega)
    refine ⟨m, by rw [s_SortRecords_l0, h2]; exact g1, by rw [g2, hlen, List.length_cons]; omega, fun r hr => ?_⟩
    rcases g3 r hr with h | h
    · rcases hm r h with h | rfl
      · exact .inl h
      · exact .inr (.head _)
    · exact .inr (.tail _ h)

theorem s_SortRecords_p {l : List Rec} (hl : l.length ≤ 1000) (hs : ∀ r, r ∈ l → r.sm) : ∃ m, s_SortRecords l = some m ∧ m.length = l.length ∧ ∀ r, r ∈ m → r ∈ l := by
  obtain ⟨m, h1, h2, h3⟩ := s_SortRecords_l0_p l [] 0 (fun r hr => by cases hr) hs (by simpa using hl)
  refine ⟨m, h1, by simpa using h2, fun r hr => ?_⟩
  rcases h3 r hr with h | h
  · cases h
  · exact h

/-- A small record of a small time. -/
def Rec.smt (r : Rec) : Prop := r.sm ∧ 0 ≤ r.ttl ∧ r.ttl ≤ 1000

theorem s_l10Uniq_l0_p : ∀ (l v : List Rec) (i : Nat), (∀ r, r ∈ v → r.smt) → (∀ r, r ∈ l → r.smt) → v.length + l.length ≤ 1000 → ∃ m, s_l10Uniq_l0 l v i = some m ∧ m.length ≤ v.length + l.length ∧ (0 < v.length ∨ 0 < l.length → 0 < m.length) ∧ ∀ r, r ∈ m → r.smt
  | [], v, i, hv, _, _ => ⟨v, rfl, Nat.le_refl _, fun h => by rcases h with h | h; exact h; simp at h, hv⟩
  | e :: l, v, i, hv, hl, hn => by
    simp only [List.length_cons] at hn
    have he := hl e (.head _)
    have hlt : ∀ r, r ∈ l → r.smt := fun r hr => hl r (.tail _ hr)
    have go : ∀ v' : List Rec, (∀ r, r ∈ v' → r.smt) → v'.length ≤ v.length + 1 → 0 < v'.length → ∃ m, s_l10Uniq_l0 l v' (i + 1) = some m ∧ m.length ≤ v.length + (e :: l).length ∧ (0 < v.length ∨ 0 < (e :: l).length → 0 < m.length) ∧ ∀ r, r ∈ m → r.smt := fun v' h1 h2 h3 => by
      obtain ⟨m, g1, g2, g3, g4⟩ := s_l10Uniq_l0_p l v' (i + 1) h1 hlt (by omega)
      exact ⟨m, g1, by rw [List.length_cons]; omega, fun _ => g3 (.inl h3), g4⟩
    have j1 : ∀ t : Int, 0 ≤ t → t ≤ 1000 → ∃ m, s_l10Uniq_j1 v i e (s_l10Uniq_l0 l) t = some m ∧ m.length ≤ v.length + (e :: l).length ∧ (0 < v.length ∨ 0 < (e :: l).length → 0 < m.length) ∧ ∀ r, r ∈ m → r.smt := fun t t0 t1 => by
      unfold s_l10Uniq_j1
      rw [grd_pos (by rw [List.length_append, List.length_singleton]; omega)]
      refine go _ (fun r hr => ?_) (by rw [List.length_append, List.length_singleton]; omega) (by rw [List.length_append, List.length_singleton]; omega)
      rcases List.mem_append.1 hr with hr | hr
      · exact hv r hr
      · rw [List.mem_singleton] at hr; rw [hr]; exact ⟨⟨he.1.1, he.1.2.1, he.1.2.2⟩, t0, t1⟩
    have j2 : ∀ b : Bool, (b = true → 0 < v.length) → ∃ m, s_l10Uniq_j2 v i e (s_l10Uniq_l0 l) b = some m ∧ m.length ≤ v.length + (e :: l).length ∧ (0 < v.length ∨ 0 < (e :: l).length → 0 < m.length) ∧ ∀ r, r ∈ m → r.smt := fun b hb => by
      unfold s_l10Uniq_j2
      cases b with
      | false => exact j1 _ he.2.1 he.2.2
      | true =>
        have h0 := hb rfl
        obtain ⟨x, e1, hx⟩ := idx_ok (l := v) (i := (v.length : Int) - 1) (by omega) (by omega)
        rw [cond_true, grd_pos (by simp only [i64]; omega), e1, bnd1_mk, grd_pos (by simp only [i64]; omega)]
        generalize (decide (x.name = e.name) && (decide (x.ty = e.ty) && (decide (x.ttl = x.ttl) && (decide (x.n = e.n) && (decide (x.host = e.host) && (decide (x.text = e.text) && true)))))) = b
        cases b with
        | true => exact go v hv (by omega) h0
        | false => exact j1 _ (hv x hx).2.1 (hv x hx).2.2
    rw [s_l10Uniq_l0]
    cases hd : decide (0 < (v.length : Int)) with
    | false => exact j2 false (by simp)
    | true =>
      have h0 : 0 < v.length := by have := of_decide_eq_true hd; omega
      obtain ⟨x, e1, hx⟩ := idx_ok (l := v) (i := (v.length : Int) - 1) (by omega) (by omega)
      rw [cond_true, grd_pos (by simp only [i64]; omega), e1, bnd1_mk, grd_pos (by simp only [i64]; omega)]
      cases decide (x.name = e.name) with
      | true => exact j2 _ (fun _ => h0)
      | false => exact j2 false (by simp)

theorem s_l10Uniq_p {l : List Rec} (hl : l.length ≤ 1000) (hs : ∀ r, r ∈ l → r.smt) : ∃ m, s_l10Uniq l = some m ∧ m.length ≤ l.length ∧ (0 < l.length → 0 < m.length) ∧ ∀ r, r ∈ m → r.smt := by
  obtain ⟨a, h1, h2, h3⟩ := s_SortRecords_p hl fun r hr => (hs r hr).1
  obtain ⟨m, g1, g2, g3, g4⟩ := s_l10Uniq_l0_p a [] 0 (fun r hr => by cases hr) (fun r hr => hs r (h3 r hr)) (by simp; omega)
  unfold s_l10Uniq
  rw [h1, bnd1_mk]
  exact ⟨m, g1, by simpa [h2] using g2, fun h => g3 (.inr (by omega)), g4⟩

theorem mem_app2 {α : Type} {p : α → Prop} {a b : List α} (h1 : ∀ r, r ∈ a → p r) (h2 : ∀ r, r ∈ b → p r) : ∀ r, r ∈ a ++ b → p r := fun r hr => by
  rcases List.mem_append.1 hr with h | h
  · exact h1 r h
  · exact h2 r h

theorem mem_one {α : Type} {p : α → Prop} {a : α} (h : p a) : ∀ r, r ∈ [a] → p r := fun r hr => by rw [List.mem_singleton] at hr; rw [hr]; exact h

theorem mem_two {α : Type} {p : α → Prop} {a b : α} (h : p a) (k : p b) : ∀ r, r ∈ [a, b] → p r := fun r hr => by
  cases hr with
  | head => exact h
  | tail _ hr => exact mem_one k r hr

theorem smt_of {a b c : ByteArray} {k t n : Int} (h1 : a.size ≤ 1048576) (h2 : b.size ≤ 1048576) (h3 : c.size ≤ 1048576) (t0 : 0 ≤ t) (t1 : t ≤ 1000) : (Rec.mk a k t n b c).smt := ⟨⟨h1, h2, h3⟩, t0, t1⟩

theorem w_sameMsg_self {m : MMsg} : w_sameMsg m m = some true := by
  unfold w_sameMsg; simp [w_sameRecs_self]

theorem kind_answer {z : MZone} {q : Quest} : decide (0 < ((answerIn z q).length : Int)) = (decide (kindIn z q = 2) || decide (kindIn z q = 3)) := by
  unfold answerIn kindIn
  cases under q.name z.apex <;> cases (cutOf z q.name).2 <;> cases decide (q.ty = 5) <;> cases h5 : decide (0 < ((setOf z.l q.name 5).length : Int)) <;> cases hs : decide (0 < ((setOf z.l q.name q.ty).length : Int)) <;> cases z.l.any (fun r => under r.name q.name) <;> first | rfl | exact h5 | exact hs

/-- A record of a drawn zone that is right. -/
def Rec.okR (r : Rec) : Prop := r.smt ∧ recP (Rec.mk r.name r.ty 0 r.n r.host r.text) = true

theorem recP_of {r : Rec} (h : r.okR) : recP r = true := by
  obtain ⟨⟨-, h0, h1⟩, h2⟩ := h
  have h3 : inP r.ttl 0 100000 = true := by unfold inP; simp only [Bool.and_eq_true, decide_eq_true_eq]; omega
  unfold recP at h2 ⊢
  dsimp only at h2
  rw [show inP 0 0 100000 = true from rfl] at h2
  rw [h3]; exact h2

theorem s_SortRecords_l0_q : ∀ (l v : List Rec) (i : Nat), (∀ r, r ∈ v → r.sm) → (∀ r, r ∈ l → r.sm) → v.length + l.length ≤ 1000 → ∃ m, s_SortRecords_l0 l v i = some m ∧ ∀ r, r ∈ v ∨ r ∈ l → r ∈ m
  | [], v, i, _, _, _ => ⟨v, rfl, fun r hr => hr.elim id fun h => by cases h⟩
  | e :: l, v, i, hv, hl, hn => by
    simp only [List.length_cons] at hn
    obtain ⟨j, h1, h2⟩ := s_SortRecords_l2_p (i := i) (K := s_SortRecords_l0 l) (by omega) hv (hl e (.head _)) v.length fuel0 (Nat.le_refl _) (fuel_lt (by omega))
    have hm : ∀ r, r ∈ (v.take j ++ [e]) ++ v.drop j → r ∈ v ∨ r = e := fun r hr => by
      rcases List.mem_append.1 hr with hr | hr
      · rcases List.mem_append.1 hr with hr | hr
        · exact .inl (List.mem_of_mem_take hr)
        · exact .inr (List.mem_singleton.1 hr)
      · exact .inl (List.mem_of_mem_drop hr)
    have hlen : ((v.take j ++ [e]) ++ v.drop j).length = v.length + 1 := by
      simp only [List.length_append, List.length_singleton, List.length_take, List.length_drop]; omega
    have hk : ∀ r, r ∈ v ∨ r = e → r ∈ (v.take j ++ [e]) ++ v.drop j := fun r hr => by
      rcases hr with hr | rfl
      · rw [← List.take_append_drop j v] at hr
        rcases List.mem_append.1 hr with hr | hr
        · exact List.mem_append.2 (.inl (List.mem_append.2 (.inl hr)))
        · exact List.mem_append.2 (.inr hr)
      · exact List.mem_append.2 (.inl (List.mem_append.2 (.inr (List.mem_singleton.2 rfl))))
    obtain ⟨m, g1, g3⟩ := s_SortRecords_l0_q l ((v.take j ++ [e]) ++ v.drop j) (i + 1) (fun r hr => by
      rcases hm r hr with h | rfl
      · exact hv r h
      · exact hl r (.head _)) (fun r hr => hl r (.tail _ hr)) (by omega)
    refine ⟨m, by rw [s_SortRecords_l0, h2]; exact g1, fun r hr => g3 r ?_⟩
    rcases hr with h | h
    · exact .inl (hk r (.inl h))
    · cases h with
      | head => exact .inl (hk e (.inr rfl))
      | tail _ h => exact .inr h

theorem s_l10Uniq_l0_q : ∀ (l v : List Rec) (i : Nat), (∀ r, r ∈ v → r.okR) → (∀ r, r ∈ l → r.okR) → v.length + l.length ≤ 1000 → ∃ m, s_l10Uniq_l0 l v i = some m ∧ (∀ r, r ∈ m → r.okR) ∧ ∀ r, r ∈ v ∨ r ∈ l → ∃ x, x ∈ m ∧ x.ty = r.ty
  | [], v, i, hv, _, _ => ⟨v, rfl, hv, fun r hr => ⟨r, hr.elim id (fun h => by cases h), rfl⟩⟩
  | e :: l, v, i, hv, hl, hn => by
    simp only [List.length_cons] at hn
    have he := hl e (.head _)
    have hlt : ∀ r, r ∈ l → r.okR := fun r hr => hl r (.tail _ hr)
    have go : ∀ v' : List Rec, (∀ r, r ∈ v' → r.okR) → v'.length ≤ v.length + 1 → (∀ r, r ∈ v → r ∈ v') → (∃ x, x ∈ v' ∧ x.ty = e.ty) → ∃ m, s_l10Uniq_l0 l v' (i + 1) = some m ∧ (∀ r, r ∈ m → r.okR) ∧ ∀ r, r ∈ v ∨ r ∈ e :: l → ∃ x, x ∈ m ∧ x.ty = r.ty := fun v' h1 h2 h3 h4 => by
      obtain ⟨m, g1, g2, g3⟩ := s_l10Uniq_l0_q l v' (i + 1) h1 hlt (by omega)
      refine ⟨m, g1, g2, fun r hr => ?_⟩
      rcases hr with hr | hr
      · exact g3 r (.inl (h3 r hr))
      · cases hr with
        | head =>
          obtain ⟨x, hx, hxt⟩ := h4
          obtain ⟨y, hy, hyt⟩ := g3 x (.inl hx)
          exact ⟨y, hy, hyt.trans hxt⟩
        | tail _ hr => exact g3 r (.inr hr)
    have j1 : ∀ t : Int, 0 ≤ t → t ≤ 1000 → ∃ m, s_l10Uniq_j1 v i e (s_l10Uniq_l0 l) t = some m ∧ (∀ r, r ∈ m → r.okR) ∧ ∀ r, r ∈ v ∨ r ∈ e :: l → ∃ x, x ∈ m ∧ x.ty = r.ty := fun t t0 t1 => by
      unfold s_l10Uniq_j1
      rw [grd_pos (by rw [List.length_append, List.length_singleton]; omega)]
      refine go _ (fun r hr => ?_) (by rw [List.length_append, List.length_singleton]; omega) (fun r hr => List.mem_append.2 (.inl hr)) ⟨_, List.mem_append.2 (.inr (List.mem_singleton.2 rfl)), rfl⟩
      rcases List.mem_append.1 hr with hr | hr
      · exact hv r hr
      · rw [List.mem_singleton] at hr; rw [hr]; exact ⟨⟨⟨he.1.1.1, he.1.1.2.1, he.1.1.2.2⟩, t0, t1⟩, he.2⟩
    have j2 : ∀ b : Bool, (b = true → 0 < v.length) → ∃ m, s_l10Uniq_j2 v i e (s_l10Uniq_l0 l) b = some m ∧ (∀ r, r ∈ m → r.okR) ∧ ∀ r, r ∈ v ∨ r ∈ e :: l → ∃ x, x ∈ m ∧ x.ty = r.ty := fun b hb => by
      unfold s_l10Uniq_j2
      cases b with
      | false => exact j1 _ he.1.2.1 he.1.2.2
      | true =>
        have h0 := hb rfl
        obtain ⟨x, e1, hx⟩ := idx_ok (l := v) (i := (v.length : Int) - 1) (by omega) (by omega)
        rw [cond_true, grd_pos (by simp only [i64]; omega), e1, bnd1_mk, grd_pos (by simp only [i64]; omega)]
        have hty : (decide (x.name = e.name) && (decide (x.ty = e.ty) && (decide (x.ttl = x.ttl) && (decide (x.n = e.n) && (decide (x.host = e.host) && (decide (x.text = e.text) && true)))))) = true → x.ty = e.ty := fun q => by
          simp only [Bool.and_eq_true, decide_eq_true_eq] at q; exact q.2.1
        revert hty
        generalize (decide (x.name = e.name) && (decide (x.ty = e.ty) && (decide (x.ttl = x.ttl) && (decide (x.n = e.n) && (decide (x.host = e.host) && (decide (x.text = e.text) && true)))))) = b
        intro hty
        cases b with
        | true => exact go v hv (by omega) (fun _ h => h) ⟨x, hx, hty rfl⟩
        | false => exact j1 _ (hv x hx).1.2.1 (hv x hx).1.2.2
    rw [s_l10Uniq_l0]
    cases hd : decide (0 < (v.length : Int)) with
    | false => exact j2 false (by simp)
    | true =>
      have h0 : 0 < v.length := by have := of_decide_eq_true hd; omega
      obtain ⟨x, e1, hx⟩ := idx_ok (l := v) (i := (v.length : Int) - 1) (by omega) (by omega)
      rw [cond_true, grd_pos (by simp only [i64]; omega), e1, bnd1_mk, grd_pos (by simp only [i64]; omega)]
      cases decide (x.name = e.name) with
      | true => exact j2 _ (fun _ => h0)
      | false => exact j2 false (by simp)

theorem s_l10Uniq_q {l : List Rec} (hl : l.length ≤ 1000) (hs : ∀ r, r ∈ l → r.okR) : ∃ m, s_l10Uniq l = some m ∧ m.length ≤ l.length ∧ (0 < l.length → 0 < m.length) ∧ (∀ r, r ∈ m → r.okR) ∧ ∀ r, r ∈ l → ∃ x, x ∈ m ∧ x.ty = r.ty := by
  obtain ⟨a, h1, h2, h3⟩ := s_SortRecords_p hl fun r hr => (hs r hr).1.1
  obtain ⟨a', h1', h4⟩ := s_SortRecords_l0_q l [] 0 (fun r hr => by cases hr) (fun r hr => (hs r hr).1.1) (by simpa using hl)
  have : a' = a := Option.some.inj (h1'.symm.trans h1)
  subst this
  obtain ⟨m, g1, g2, g3, g4⟩ := s_l10Uniq_p hl fun r hr => (hs r hr).1
  obtain ⟨m', k1, k2, k3⟩ := s_l10Uniq_l0_q a' [] 0 (fun r hr => by cases hr) (fun r hr => hs r (h3 r hr)) (by simp; omega)
  have e : s_l10Uniq l = some m' := by unfold s_l10Uniq; rw [h1, bnd1_mk]; exact k1
  have : m' = m := Option.some.inj (e.symm.trans g1)
  subst this
  exact ⟨m', g1, g2, g3, k2, fun r hr => k3 r (.inr (h4 r (.inr hr)))⟩

def okZL (l : List Rec) (n : Nat) : Prop := l.length ≤ n ∧ (∀ r, r ∈ l → r.okR) ∧ ∃ x, x ∈ l ∧ x.ty = 6

theorem okZL_app {l k : List Rec} {n m : Nat} (h : okZL l n) (hk : ∀ r, r ∈ k → r.okR) (hn : l.length + k.length ≤ m) : okZL (l ++ k) m := by
  obtain ⟨h1, h2, x, h3, h4⟩ := h
  exact ⟨by rw [List.length_append]; exact hn, mem_app2 h2 hk, x, List.mem_append.2 (.inl h3), h4⟩

theorem okR_of {a b c : ByteArray} {k t n : Int} (h1 : a.size ≤ 1048576) (h2 : b.size ≤ 1048576) (h3 : c.size ≤ 1048576) (t0 : 0 ≤ t) (t1 : t ≤ 1000) (hr : recP (Rec.mk a k 0 n b c) = true) : (Rec.mk a k t n b c).okR := ⟨smt_of h1 h2 h3 t0 t1, hr⟩

theorem s_l10Zone_q {c : Cur} (h : c.inv) : ∃ z d, s_l10Zone c = some (z, d) ∧ d.inv ∧ z.sm ∧ okZL z.l 8 := by
  obtain ⟨t, d1, e1, h1, ht⟩ := s_l1Int_p (l := [5, 60, 300]) h (by decide) (by decide)
  have ht' : t = 5 ∨ t = 60 ∨ t = 300 := by
    simp only [List.mem_cons, List.not_mem_nil, or_false] at ht
    exact ht
  have t0 : 0 ≤ t := by omega
  have t1 : t ≤ 1000 := by omega
  have h2 : ∀ (d : Cur) (l : List Rec), d.inv → okZL l 8 → ∃ z q, s_l10Zone_j2 d.b d.i d.h l = some (z, q) ∧ q.inv ∧ z.sm ∧ okZL z.l 8 := fun d l hd hl => by
    obtain ⟨l1, l2, x, l3, l4⟩ := hl
    obtain ⟨m, g1, g2, g3, g4, g5⟩ := s_l10Uniq_q (l := l) (by omega) l2
    obtain ⟨y, hy, hyt⟩ := g5 x l3
    unfold s_l10Zone_j2
    rw [g1, bnd1_mk]
    exact ⟨_, _, rfl, hd, ⟨(by decide : (⟨#[99, 111, 109]⟩ : ByteArray).size ≤ 1048576), by show m.length ≤ 1048576; omega, fun r hr => (g4 r hr).1.1⟩, by show m.length ≤ 8; omega, g4, y, hy, hyt.trans l4⟩
  have h3 : ∀ (d : Cur) (l : List Rec), d.inv → okZL l 6 → ∃ z q, s_l10Zone_j1 d.b d.i d.h l = some (z, q) ∧ q.inv ∧ z.sm ∧ okZL z.l 8 := fun d l hd hl => by
    obtain ⟨o, d3, e3, g3⟩ := s_l1Once_p (n := 2) hd (by omega) (by omega)
    have l1 := hl.1
    unfold s_l10Zone_j1
    rw [show Cur.mk d.b d.i d.h = d from rfl, e3, bnd2_mk]
    cases o with
    | false => exact h2 d3 l g3 ⟨by omega, hl.2⟩
    | true =>
      unfold s_l10Addr
      rw [cond_true, bnd1_mk, grd_pos (by rw [List.length_append]; simp only [List.length_cons, List.length_nil]; omega)]
      exact h2 d3 _ g3 (okZL_app hl (mem_two (okR_of (by decide) (by decide) (by decide) (by decide) (by decide) (by decide)) (okR_of (by decide) (by decide) (by decide) (by decide) (by decide) (by decide))) (by simp only [List.length_cons, List.length_nil]; omega))
  have h4 : ∀ (d : Cur) (l : List Rec), d.inv → okZL l 5 → ∃ z q, s_l10Zone_j0 d.b d.i d.h l = some (z, q) ∧ q.inv ∧ z.sm ∧ okZL z.l 8 := fun d l hd hl => by
    obtain ⟨o, d3, e3, g3⟩ := s_l1Once_p (n := 2) hd (by omega) (by omega)
    have l1 := hl.1
    unfold s_l10Zone_j0
    rw [show Cur.mk d.b d.i d.h = d from rfl, e3, bnd2_mk]
    cases o with
    | false => exact h3 d3 l g3 ⟨by omega, hl.2⟩
    | true =>
      rw [cond_true, grd_pos (by rw [List.length_append]; simp only [List.length_cons, List.length_nil]; omega)]
      exact h3 d3 _ g3 (okZL_app hl (mem_one (okR_of (by decide) (by decide) (by decide) (by decide) (by decide) (by decide))) (by simp only [List.length_cons, List.length_nil]; omega))
  obtain ⟨o, d3, e3, g3⟩ := s_l1Once_p (n := 2) h1 (by omega) (by omega)
  unfold s_l10Zone s_l10Start s_l10Server s_l10Addr
  rw [e1, bnd2_mk, bnd1_mk, bnd1_mk, bnd1_mk, e3, bnd2_mk]
  have hl : okZL [Rec.mk (⟨#[99, 111, 109]⟩ : ByteArray) 6 t (IntKind.i64.wrap (Int.tdiv t 2)) (⟨#[]⟩ : ByteArray) (⟨#[]⟩ : ByteArray), Rec.mk (⟨#[99, 111, 109]⟩ : ByteArray) 2 t 0 (⟨#[110, 115, 46, 99, 111, 109]⟩ : ByteArray) (⟨#[]⟩ : ByteArray), Rec.mk (⟨#[110, 115, 46, 99, 111, 109]⟩ : ByteArray) 1 t 2 (⟨#[]⟩ : ByteArray) (⟨#[]⟩ : ByteArray)] 5 := by
    refine ⟨by simp, fun r hr => ?_, _, .head _, rfl⟩
    cases hr with
    | head => exact okR_of (by decide) (by decide) (by decide) t0 t1 (by rcases ht' with rfl | rfl | rfl <;> decide)
    | tail _ hr => exact mem_two (p := Rec.okR) (okR_of (by decide) (by decide) (by decide) t0 t1 (by decide)) (okR_of (by decide) (by decide) (by decide) t0 t1 (by decide)) r hr
  cases o with
  | false => exact h4 d3 _ g3 hl
  | true =>
    rw [cond_true, bnd1_mk, bnd1_mk, grd_pos (by simp)]
    exact h4 d3 _ g3 (okZL_app hl (mem_two (okR_of (by decide) (by decide) (by decide) t0 t1 (by decide)) (okR_of (by decide) (by decide) (by decide) t0 t1 (by decide))) (by simp))

theorem s_DrawZone_q {b : List Int} (hb : b.length ≤ 1048576) : ∃ z q, s_DrawZone b = some (z, q) ∧ z.sm ∧ okZL z.l 8 ∧ q.sm ∧ questP q = true := by
  obtain ⟨c, e, hc⟩ := s_l1New_p hb
  obtain ⟨z, d1, e1, h1, hz, hl⟩ := s_l10Zone_q hc
  obtain ⟨s, d2, e2, h2, hs⟩ := s_l1Str_p (l := [(⟨#[]⟩ : ByteArray), (⟨#[99, 111, 109]⟩ : ByteArray), (⟨#[110, 115, 46, 99, 111, 109]⟩ : ByteArray), (⟨#[101, 120, 46, 99, 111, 109]⟩ : ByteArray), (⟨#[119, 119, 119, 46, 101, 120, 46, 99, 111, 109]⟩ : ByteArray), (⟨#[110, 115, 46, 101, 120, 46, 99, 111, 109]⟩ : ByteArray), (⟨#[119, 119, 119, 46, 99, 111, 109]⟩ : ByteArray), (⟨#[116, 46, 99, 111, 109]⟩ : ByteArray), (⟨#[97, 46, 99, 111, 109]⟩ : ByteArray), (⟨#[98, 46, 97, 46, 99, 111, 109]⟩ : ByteArray), (⟨#[110, 111, 46, 99, 111, 109]⟩ : ByteArray), (⟨#[111, 114, 103]⟩ : ByteArray)]) h1 (by decide) (by decide)
  obtain ⟨k, d3, e3, h3, hk⟩ := s_l5Type_p h2
  unfold s_DrawZone s_l10Name
  rw [e, bnd1_mk, e1, bnd2_mk, e2, bnd2_mk, bnd2_mk, e3, bnd2_mk]
  refine ⟨z, _, rfl, hz, hl, small_of rfl hs, ?_⟩
  have h4 : ∀ x, x ∈ [(⟨#[]⟩ : ByteArray), (⟨#[99, 111, 109]⟩ : ByteArray), (⟨#[110, 115, 46, 99, 111, 109]⟩ : ByteArray), (⟨#[101, 120, 46, 99, 111, 109]⟩ : ByteArray), (⟨#[119, 119, 119, 46, 101, 120, 46, 99, 111, 109]⟩ : ByteArray), (⟨#[110, 115, 46, 101, 120, 46, 99, 111, 109]⟩ : ByteArray), (⟨#[119, 119, 119, 46, 99, 111, 109]⟩ : ByteArray), (⟨#[116, 46, 99, 111, 109]⟩ : ByteArray), (⟨#[97, 46, 99, 111, 109]⟩ : ByteArray), (⟨#[98, 46, 97, 46, 99, 111, 109]⟩ : ByteArray), (⟨#[110, 111, 46, 99, 111, 109]⟩ : ByteArray), (⟨#[111, 114, 103]⟩ : ByteArray)] → nameP x = true := List.all_eq_true.1 (by decide)
  have h5 : ∀ x, x ∈ ([1, 1, 1, 2, 2, 5, 6, 16] : List Int) → typeP x = true := List.all_eq_true.1 (by decide)
  unfold questP
  rw [h4 s hs, h5 k hk]; rfl

theorem w_at_p {p : List Int} (hp : p.length ≤ 1048576) (hb : ∀ q, q ∈ p → 0 ≤ q ∧ q < 256) : ∃ v, w_at p 4 = some v ∧ 0 ≤ v ∧ v ≤ 65535 := by
  unfold w_at
  by_cases c : (4 : Int) < (p.length : Int)
  · obtain ⟨x, e1, hx⟩ := idx_ok (l := p) (i := 4) (by omega) c
    have := hb x hx
    rw [decide_eq_true c, cond_true, e1, bnd1_mk, wrap_id (by omega)]
    exact ⟨x, rfl, by omega, by omega⟩
  · rw [decide_eq_false c, cond_false, grd_pos (by simp only [i64]; omega), grd_pos (by simp only [i64]; omega), grd_pos (by simp only [i64]; omega)]
    refine ⟨_, rfl, Int.tmod_nonneg _ (by omega), ?_⟩
    have := Int.tmod_lt_of_pos (4 * 31 + (p.length : Int) * 7) (show (0 : Int) < 256 by omega)
    omega

theorem i_MsgOk_yes {m : MMsg} (h : m.sm) (h1 : 0 ≤ m.id ∧ m.id ≤ 65535) (h2 : 0 ≤ m.code ∧ m.code ≤ 15) (hq : questP m.q = true) (a : listP 8 m.an = true) (b : listP 8 m.au = true) (c : listP 8 m.ad = true) : i_MsgOk m = some true := by
  unfold i_MsgOk
  rw [decide_eq_true h1.1, cond_true, decide_eq_true h1.2, cond_true, decide_eq_true h2.1, cond_true, decide_eq_true h2.2, cond_true, i_QuestOk_eq h.1, bnd1_mk, hq, cond_true, i_allOk_eq h.2.1, bnd1_mk, a, cond_true, i_allOk_eq h.2.2.1, bnd1_mk, b, cond_true, i_allOk_eq h.2.2.2, bnd1_mk, c]

theorem take_ok {zl l : List Rec} (hz : ∀ r, r ∈ zl → r.okR) (h : ∀ r, r ∈ l → r ∈ zl) : smL (l.take 8) ∧ listP 8 (l.take 8) = true := by
  have h8 : (l.take 8).length ≤ 8 := take8_len
  refine ⟨⟨by omega, fun r hr => (hz r (h r (List.mem_of_mem_take hr))).1.1⟩, ?_⟩
  unfold listP
  rw [Bool.and_eq_true, List.all_eq_true, decide_eq_true_eq]
  exact ⟨fun r hr => recP_of (hz r (h r (List.mem_of_mem_take hr))), by omega⟩

theorem setOf_mem {l : List Rec} {s : ByteArray} {k : Int} {r : Rec} (h : r ∈ setOf l s k) : r ∈ l ∧ r.name = s := by
  unfold setOf at h
  obtain ⟨h1, h2⟩ := List.mem_filter.1 h
  simp only [Bool.and_eq_true, decide_eq_true_eq] at h2
  exact ⟨h1, h2.1⟩

theorem answerIn_mem {z : MZone} {q : Quest} {r : Rec} (h : r ∈ answerIn z q) : r ∈ z.l ∧ r.name = q.name := by
  unfold answerIn at h
  revert h
  cases decide (kindIn z q = 2) <;> cases decide (kindIn z q = 3) <;> intro h <;> simp only [cond_true, cond_false] at h
  · cases h
  · exact setOf_mem h
  · exact setOf_mem h
  · exact setOf_mem h

theorem moreIn_mem {z : MZone} {q : Quest} (h6 : ∃ x, x ∈ z.l ∧ x.ty = 6) {r : Rec} (h : r ∈ moreIn z q) : r ∈ z.l := by
  have hf : first (fun r => decide (r.ty = 6)) z.l ∈ z.l := by
    unfold first
    cases hc : z.l.find? (fun r => decide (r.ty = 6)) with
    | some x => exact List.mem_of_find?_eq_some hc
    | none =>
      obtain ⟨x, h1, h2⟩ := h6
      rw [List.find?_eq_none] at hc
      exact absurd (by simp [h2]) (hc x h1)
  unfold moreIn at h
  revert h
  cases decide (kindIn z q = 1) <;> cases (decide (kindIn z q = 4) || decide (kindIn z q = 5)) <;> intro h <;> simp only [cond_true, cond_false] at h
  · cases h
  · rw [List.mem_singleton] at h; rw [h]; exact hf
  · exact (setOf_mem h).1
  · exact (setOf_mem h).1

theorem helpIn_mem {z : MZone} {q : Quest} {r : Rec} (h : r ∈ helpIn z q) : r ∈ z.l := by
  unfold helpIn at h
  revert h
  cases decide (kindIn z q = 1) <;> intro h <;> simp only [Bool.not_true, Bool.not_false, cond_true, cond_false] at h
  · cases h
  · exact glueL_mem h

theorem serves_l3 {z : MZone} {q : Quest} {k : Int} : ∀ (l : List Rec) (i : Nat), (∀ r, r ∈ l → r.name = q.name) → w_FnServes_l3 z q k l i = w_FnServes_j2 z q k
  | [], i, _ => rfl
  | r :: l, i, h => by
    rw [w_FnServes_l3, decide_eq_true (h r (.head _)), Bool.not_true, cond_false]
    exact serves_l3 l (i + 1) fun x hx => h x (.tail _ hx)

theorem kind_range {z : MZone} {q : Quest} : 0 ≤ kindIn z q ∧ kindIn z q ≤ 5 := by
  unfold kindIn
  cases under q.name z.apex <;> cases (cutOf z q.name).2 <;> cases decide (q.ty = 5) <;> cases decide (0 < ((setOf z.l q.name 5).length : Int)) <;> cases decide (0 < ((setOf z.l q.name q.ty).length : Int)) <;> cases z.l.any (fun r => under r.name q.name) <;> decide

theorem kind_five {z : MZone} {q : Quest} (h : kindIn z q = 5) : (z.l.any fun r => under r.name q.name) = false := by
  revert h
  unfold kindIn
  cases under q.name z.apex <;> cases (cutOf z q.name).2 <;> cases decide (q.ty = 5) <;> cases decide (0 < ((setOf z.l q.name 5).length : Int)) <;> cases decide (0 < ((setOf z.l q.name q.ty).length : Int)) <;> cases z.l.any (fun r => under r.name q.name) <;> simp

theorem take8_pos (l : List Rec) : decide (0 < ((l.take 8).length : Int)) = decide (0 < (l.length : Int)) := by
  cases l with
  | nil => rfl
  | cons a l => simp

theorem law_FnServes {p : List Int} (hp : p.length ≤ 9223372036854775807 ∧ ∀ q, q ∈ p → 0 ≤ q ∧ q < 256) : w_FnServes p = some true := by
  unfold w_FnServes
  rw [w_big_eq, bnd1_mk]
  by_cases c0 : 1048576 < (p.length : Int)
  · rw [decide_eq_true c0]; rfl
  have hb : p.length ≤ 1048576 := by omega
  obtain ⟨z, q, e1, hz, hl, hq, hqp⟩ := s_DrawZone_q hb
  obtain ⟨v, e2, v0, v1⟩ := w_at_p hb hp.2
  obtain ⟨-, ho, h6⟩ := hl
  have hA := take_ok (l := answerIn z q) ho fun r hr => (answerIn_mem hr).1
  have hM := take_ok (l := moreIn z q) ho fun r hr => moreIn_mem h6 hr
  have hH := take_ok (l := helpIn z q) ho fun r hr => helpIn_mem hr
  have hk := kind_range (z := z) (q := q)
  have hmq : (MMsg.mk v false false false false false 0 q ([] : List Rec) ([] : List Rec) ([] : List Rec)).q.sm := hq
  have hok : i_MsgOk (serve z (MMsg.mk v false false false false false 0 q ([] : List Rec) ([] : List Rec) ([] : List Rec))) = some true := by
    refine i_MsgOk_yes ⟨hq, hA.1, hM.1, hH.1⟩ ⟨v0, v1⟩ ?_ hqp hA.2 hM.2 hH.2
    show 0 ≤ (bif decide (kindIn z q = 0) then (5 : Int) else (bif decide (kindIn z q = 5) then 3 else 0)) ∧ _
    show 0 ≤ (bif decide (kindIn z q = 0) then (5 : Int) else (bif decide (kindIn z q = 5) then 3 else 0)) ∧ (bif decide (kindIn z q = 0) then (5 : Int) else (bif decide (kindIn z q = 5) then 3 else 0)) ≤ 15
    cases decide (kindIn z q = 0) <;> cases decide (kindIn z q = 5) <;> decide
  rw [decide_eq_false c0, cond_false, e1, bnd2_mk, e2, bnd1_mk]
  unfold i_AskMsg
  rw [bnd1_mk, i_Serve_eq hz hmq, bnd1_mk, i_KindIn_eq hz hq, bnd1_mk, s_KindIn_eq hz hq, bnd1_mk, decide_eq_true rfl, Bool.not_true, cond_false, s_Serve_eq hz hmq, bnd1_mk, w_sameMsg_self, bnd1_mk, Bool.not_true, cond_false, hok, bnd1_mk, Bool.not_true, cond_false]
  have hid : (serve z (MMsg.mk v false false false false false 0 q ([] : List Rec) ([] : List Rec) ([] : List Rec))).id = v := rfl
  have hqq : (serve z (MMsg.mk v false false false false false 0 q ([] : List Rec) ([] : List Rec) ([] : List Rec))).q = q := rfl
  have hre : (serve z (MMsg.mk v false false false false false 0 q ([] : List Rec) ([] : List Rec) ([] : List Rec))).reply = true := rfl
  have hau : (serve z (MMsg.mk v false false false false false 0 q ([] : List Rec) ([] : List Rec) ([] : List Rec))).auth = (!decide (kindIn z q = 0) && !decide (kindIn z q = 1)) := rfl
  have hco : (serve z (MMsg.mk v false false false false false 0 q ([] : List Rec) ([] : List Rec) ([] : List Rec))).code = (bif decide (kindIn z q = 0) then 5 else (bif decide (kindIn z q = 5) then 3 else 0)) := rfl
  have han : (serve z (MMsg.mk v false false false false false 0 q ([] : List Rec) ([] : List Rec) ([] : List Rec))).an = (answerIn z q).take 8 := rfl
  rw [hid, hqq, hre, decide_eq_true rfl, Bool.not_true, cond_false, decide_eq_true rfl, decide_eq_true rfl]
  simp only [Bool.and_self, Bool.not_true, cond_false]
  have hj1 : w_FnServes_j1 z q (serve z (MMsg.mk v false false false false false 0 q ([] : List Rec) ([] : List Rec) ([] : List Rec))) (kindIn z q) false = some true := by
    unfold w_FnServes_j1
    rw [cond_false, han, serves_l3 _ _ fun r hr => (answerIn_mem (List.mem_of_mem_take hr)).2]
    unfold w_FnServes_j2
    by_cases k5 : kindIn z q = 5
    · rw [decide_eq_true k5, Bool.not_true, cond_false, i_Exists_eq hz.2 hq, kind_five k5]; rfl
    · rw [decide_eq_false k5]; rfl
  have hlen : decide (0 < ((serve z (MMsg.mk v false false false false false 0 q ([] : List Rec) ([] : List Rec) ([] : List Rec))).an.length : Int)) = (decide (kindIn z q = 2) || decide (kindIn z q = 3)) := by rw [han, take8_pos, kind_answer]
  unfold w_FnServes_j0
  rw [cond_false, hlen, hau, hco]
  generalize kindIn z q = k at hk hj1
  have : k = 0 ∨ k = 1 ∨ k = 2 ∨ k = 3 ∨ k = 4 ∨ k = 5 := by omega
  rcases this with rfl | rfl | rfl | rfl | rfl | rfl <;> exact hj1
end Go.Abs.M
