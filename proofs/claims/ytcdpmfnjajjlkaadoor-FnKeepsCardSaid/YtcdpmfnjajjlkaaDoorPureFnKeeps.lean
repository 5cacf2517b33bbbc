/- The pure law of FnKeeps: its pure function answers true. -/
import Derived.Test.YtcdpmfnjajjlkaaDoorFnsFnKeeps
namespace Go.Abs.M
open Go Go.Abs
theorem idx_nat {α : Type} {l : List α} {n : Nat} : idx l (n : Int) = l[n]? := by simp [idx]

def zrec : Rec := ⟨⟨#[]⟩, 0, 0, 0, ⟨#[]⟩, ⟨#[]⟩⟩

def first (p : Rec → Bool) (l : List Rec) : Rec := (l.find? p).getD zrec

def setOf (l : List Rec) (nm : ByteArray) (k : Int) : List Rec := l.filter fun r => decide (r.name = nm) && decide (r.ty = k)

theorem i_SetOf_l0_eq (nm : ByteArray) (k : Int) : ∀ (l out : List Rec) (i : Nat), out.length + l.length ≤ 1099511627776 → i_SetOf_l0 nm k l out i = some (out ++ setOf l nm k)
  | [], out, i, _ => by simp [i_SetOf_l0, setOf]
  | r :: l, out, i, h => by
    simp only [List.length_cons] at h
    have h1 := i_SetOf_l0_eq nm k l (out ++ [r]) (i + 1) (by simp; omega)
    have h2 := i_SetOf_l0_eq nm k l out (i + 1) (by omega)
    rw [i_SetOf_l0]
    by_cases c : r.name = nm <;> by_cases c' : r.ty = k <;> simp [i_SetOf_j1, c, c', h2, setOf] <;> first
      | (rw [grd_pos (by omega), h1]; simp [setOf, c, c'])

def Rec.sm (r : Rec) : Prop := r.name.size ≤ 1048576 ∧ r.host.size ≤ 1048576 ∧ r.text.size ≤ 1048576

def smL (l : List Rec) : Prop := l.length ≤ 1048576 ∧ ∀ r, r ∈ l → r.sm

def Quest.sm (q : Quest) : Prop := q.name.size ≤ 1048576

theorem i_SetOf_eq {l : List Rec} {nm : ByteArray} {k : Int} (h : smL l) : i_SetOf l nm k = some (setOf l nm k) := by
  unfold i_SetOf; rw [i_SetOf_l0_eq _ _ _ _ _ (by have := h.1; simp; omega)]; rfl

def mkB (l : List UInt8) : ByteArray := ⟨l.toArray⟩

def bts (s : ByteArray) : List UInt8 := s.data.toList

theorem bts_mkB (l : List UInt8) : bts (mkB l) = l := rfl

theorem mkB_bts (s : ByteArray) : mkB (bts s) = s := rfl

theorem bts_len (s : ByteArray) : (bts s).length = s.size := rfl

theorem bts_inj {a b : ByteArray} : bts a = bts b ↔ a = b := ⟨fun h => by rw [← mkB_bts a, ← mkB_bts b, h], fun h => by rw [h]⟩

theorem bts_nil_iff (s : ByteArray) : s = ⟨#[]⟩ ↔ bts s = [] := ⟨fun h => by subst h; rfl, fun h => bts_inj.1 (by rw [h]; rfl)⟩

theorem bts_extract (s : ByteArray) (a b : Nat) : bts (s.extract a b) = ((bts s).drop a).take (b - a) := by
  unfold bts
  rw [ByteArray.data_extract, Array.toList_extract, List.extract_eq_take_drop]

theorem extract_mkB (s : ByteArray) (a b : Nat) : s.extract a b = mkB (((bts s).drop a).take (b - a)) := by
  rw [← mkB_bts (s.extract a b), bts_extract]

theorem sidx_nat {s : ByteArray} {n : Nat} {b : UInt8} (h : (bts s)[n]? = some b) : sidx s (n : Int) = some (b.toNat : Int) := by
  obtain ⟨h1, h2⟩ := List.getElem?_eq_some_iff.1 h
  have h3 : n < s.size := h1
  unfold sidx
  rw [dif_pos ⟨by omega, by simpa using h3⟩]
  subst h2
  rfl

/-- The parts of bytes between the dots. -/
def segs : List UInt8 → List UInt8 → List (List UInt8)
  | cur, [] => [cur]
  | cur, b :: l => if b = 46 then cur :: segs [] l else segs (cur ++ [b]) l

def labels (s : ByteArray) : List ByteArray := if bts s = [] then [] else (segs [] (bts s)).map mkB

theorem segs_len : ∀ (l cur : List UInt8), (segs cur l).length ≤ l.length + 1
  | [], cur => by simp [segs]
  | b :: l, cur => by
    unfold segs
    split
    · have := segs_len l []; simp; omega
    · have := segs_len l (cur ++ [b]); simp; omega

theorem u8_eq46 (b : UInt8) : ((b.toNat : Int) = 46) ↔ b = 46 := by
  constructor
  · intro h
    have : b.toNat = 46 := by omega
    exact UInt8.toNat_inj.1 this
  · intro h; subst h; rfl

/-- The loop of the reference's Labels: from the place i on, the part having begun at the place f. -/
theorem s_Labels_l0_eq (s : ByteArray) (hs : s.size ≤ 1048576) (hne : s ≠ ⟨#[]⟩) : ∀ (k : Nat) (i f fl : Nat) (out : List ByteArray), s.size - i = k → f ≤ i → i ≤ s.size → out.length ≤ f → k + 1 < fl →
    s_Labels_l0 s fl out (f : Int) (i : Int) = some (out ++ (segs (((bts s).drop f).take (i - f)) ((bts s).drop i)).map mkB)
  | 0, i, f, fl, out, hk, hfi, hi, ho, hfl => by
    obtain ⟨fl, rfl⟩ : ∃ q, fl = q + 1 := ⟨fl - 1, by omega⟩
    obtain ⟨fl, rfl⟩ : ∃ q, fl = q + 1 := ⟨fl - 1, by omega⟩
    have hie : i = s.size := by omega
    rw [s_Labels_l0]
    have e1 : (bts s).drop i = [] := List.drop_eq_nil_of_le (by rw [bts_len]; omega)
    rw [e1]
    simp only [segs, List.map_cons, List.map_nil]
    have c1 : decide ((i : Int) ≤ (s.size : Int)) = true := by simpa using hi
    have c2 : (!decide (s = (⟨#[]⟩ : ByteArray))) = true := by simpa using hne
    rw [c1, c2, cond_true, s_Labels_j1, cond_true]
    have c3 : decide ((i : Int) = (s.size : Int)) = true := by simp [hie]
    rw [c3, cond_true, s_Labels_j2, cond_true, grd_pos (by omega), grd_pos (by simp; omega), grd_pos (by simp only [i64]; omega), grd_pos (by simp only [i64]; omega), s_Labels_l0]
    have c4 : decide ((i : Int) + 1 ≤ (s.size : Int)) = false := by simp; omega
    rw [c4, cond_false, s_Labels_j1, cond_false, extract_mkB]
    simp
  | k + 1, i, f, fl, out, hk, hfi, hi, ho, hfl => by
    obtain ⟨fl, rfl⟩ : ∃ q, fl = q + 1 := ⟨fl - 1, by omega⟩
    have hlt : i < (bts s).length := by rw [bts_len]; omega
    rw [s_Labels_l0]
    have c1 : decide ((i : Int) ≤ (s.size : Int)) = true := by simpa using hi
    have c2 : (!decide (s = (⟨#[]⟩ : ByteArray))) = true := by simpa using hne
    rw [c1, c2, cond_true, s_Labels_j1, cond_true]
    have c3 : decide ((i : Int) = (s.size : Int)) = false := by simp; omega
    have hb : (bts s)[i]? = some (bts s)[i] := List.getElem?_eq_getElem hlt
    rw [c3, cond_false, sidx_nat hb, bnd1_mk, List.drop_eq_getElem_cons hlt, segs]
    have e2 : ((i : Int) + 1) = ((i + 1 : Nat) : Int) := by omega
    by_cases c : (bts s)[i] = 46
    · rw [if_pos c]
      have c5 : decide ((((bts s)[i]).toNat : Int) = 46) = true := by simpa using (u8_eq46 _).2 c
      rw [c5, s_Labels_j2, cond_true, grd_pos (by omega), grd_pos (by simp; omega), grd_pos (by simp only [i64]; omega), grd_pos (by simp only [i64]; omega), e2,
        s_Labels_l0_eq s hs hne k (i + 1) (i + 1) fl _ (by omega) (by omega) (by omega) (by simp; omega) (by omega), extract_mkB]
      simp
    · rw [if_neg c]
      have c5 : decide ((((bts s)[i]).toNat : Int) = 46) = false := by
        have := fun h => c ((u8_eq46 _).1 h)
        simpa using this
      rw [c5, s_Labels_j2, cond_false, grd_pos (by simp only [i64]; omega), e2, s_Labels_l0_eq s hs hne k (i + 1) f fl _ (by omega) (by omega) (by omega) ho (by omega)]
      have e3 : ((bts s).drop f).take (i + 1 - f) = ((bts s).drop f).take (i - f) ++ [(bts s)[i]] := by
        rw [show i + 1 - f = (i - f) + 1 by omega, List.take_add_one]
        congr 1
        rw [List.getElem?_drop, show f + (i - f) = i by omega, hb]
        rfl
      rw [e3]

theorem s_Labels_eq {s : ByteArray} (hs : s.size ≤ 1048576) : s_Labels s = some (labels s) := by
  unfold s_Labels
  by_cases hne : s = ⟨#[]⟩
  · subst hne
    have : fuel0 = 4611686018427387903 + 1 := rfl
    rw [this, s_Labels_l0]
    rfl
  · have h := s_Labels_l0_eq s hs hne s.size 0 0 fuel0 [] (by omega) (by omega) (by omega) (by simp) (by unfold fuel0; omega)
    have e : bts s ≠ [] := fun h => hne ((bts_nil_iff s).2 h)
    simpa [labels, e] using h

theorem indexByte_none : ∀ {l : List UInt8}, Lib.indexByte l 46 = -1 → ∀ cur, segs cur l = [cur ++ l]
  | [], _, cur => by simp [segs]
  | b :: l, h, cur => by
    unfold Lib.indexByte at h
    by_cases c : b = 46
    · subst c; simp at h
    · have hb : (b == (46 : UInt8)) = false := by simpa using c
      rw [hb] at h
      simp only [Bool.false_eq_true, if_false] at h
      by_cases c' : Lib.indexByte l 46 = -1
      · rw [segs, if_neg c, indexByte_none c']; simp
      · have h1 := Lib.indexByte_ge l 46
        rw [if_neg (by simpa using c')] at h
        omega

theorem indexByte_some : ∀ {l : List UInt8} {k : Nat}, Lib.indexByte l 46 = (k : Int) → k < l.length ∧ ∀ cur, segs cur l = (cur ++ l.take k) :: segs [] (l.drop (k + 1))
  | [], k, h => by simp [Lib.indexByte] at h
  | b :: l, k, h => by
    unfold Lib.indexByte at h
    by_cases c : b = 46
    · subst c
      simp at h
      have : k = 0 := by omega
      subst this
      exact ⟨by simp, fun cur => by simp [segs]⟩
    · have hb : (b == (46 : UInt8)) = false := by simpa using c
      rw [hb] at h
      simp only [Bool.false_eq_true, if_false] at h
      have h1 := Lib.indexByte_ge l 46
      by_cases c' : Lib.indexByte l 46 = -1
      · rw [if_pos (by simpa using c')] at h; omega
      · rw [if_neg (by simpa using c')] at h
        obtain ⟨q, rfl⟩ : ∃ q, k = q + 1 := ⟨k - 1, by omega⟩
        obtain ⟨h2, h3⟩ := indexByte_some (l := l) (k := q) (by omega)
        exact ⟨by simp; omega, fun cur => by rw [segs, if_neg c, h3]; simp⟩

theorem count_segs : ∀ (l cur : List UInt8), (segs cur l).length = Lib.countByte l 46 + 1
  | [], cur => by simp [segs, Lib.countByte]
  | b :: l, cur => by
    unfold segs
    by_cases c : b = 46
    · subst c; rw [if_pos rfl, List.length_cons, count_segs l []]; simp [Lib.countByte]
    · rw [if_neg c, count_segs l]; simp [Lib.countByte, c]

theorem dotB : (⟨#[46]⟩ : ByteArray).size = 1 := rfl

theorem dot_sidx : sidx (⟨#[46]⟩ : ByteArray) 0 = some 46 := rfl

theorem strings_Index_dot {s : ByteArray} : strings_Index s ⟨#[46]⟩ = some (if s = ⟨#[46]⟩ then 0 else Lib.indexByte (bts s) 46) := by
  unfold strings_Index internal_stringslite_Index
  rw [dotB]
  by_cases c : s = ⟨#[46]⟩
  · subst c; simp [internal_stringslite_Index_j0]
  · have c' : ¬ ((⟨#[46]⟩ : ByteArray) = s) := fun h => c h.symm
    simp [internal_stringslite_Index_j0, c, c', dotB, dot_sidx, internal_stringslite_IndexByte]
    rfl

theorem strings_Index_dot' {s : ByteArray} : strings_Index s ⟨#[46]⟩ = some (Lib.indexByte (bts s) 46) := by
  rw [strings_Index_dot]
  by_cases c : s = ⟨#[46]⟩
  · subst c; rfl
  · rw [if_neg c]

theorem segs_pos (cur l : List UInt8) : 1 ≤ (segs cur l).length := by rw [count_segs]; omega

theorem idx_cases (l : List UInt8) : Lib.indexByte l 46 = -1 ∨ ∃ k : Nat, Lib.indexByte l 46 = (k : Int) := by
  have h := Lib.indexByte_ge l 46
  rcases Int.lt_or_le (Lib.indexByte l 46) 0 with h1 | h1
  · exact .inl (by omega)
  · exact .inr ⟨(Lib.indexByte l 46).toNat, by omega⟩

theorem genSplit_j1_eq {r : ByteArray} {a : List ByteArray} {i : Nat} (hi : i < a.length) (ha : a.length ≤ 1099511627776) : strings_genSplit_j1 r a (i : Int) = some (a.take i ++ [r]) := by
  unfold strings_genSplit_j1
  rw [idx_nat, List.getElem?_eq_getElem hi, bnd1_mk, grd_pos (by simp only [i64]; omega), grd_pos (by omega)]
  congr 1
  have e : ((i : Int) + 1).toNat - ((0 : Nat) : Int).toNat = i + 1 := by omega
  have e2 : (0 + ((0 : Nat) : Int).toNat) = 0 := by omega
  rw [e, e2, List.drop_zero, Int.toNat_natCast, List.take_add_one, List.take_set_of_le (Nat.le_refl i), List.getElem?_set_self hi]
  rfl

theorem genSplit_l2_eq (p0 : ByteArray) (j : Int) (n : Nat) (hj : (if (p0.size : Int) + 1 < j then (p0.size : Int) + 1 else j) - 1 = (n : Int)) : ∀ (k i fl : Nat) (r : ByteArray) (a : List ByteArray), n - i = k → i ≤ n → k < fl → a.length = n + 1 → a.length ≤ 1099511627776 → (segs [] (bts r)).length = n + 1 - i → r.size ≤ 1048576 →
    strings_genSplit_l2 p0 ⟨#[46]⟩ 0 j fl r a (i : Int) = some (a.take i ++ (segs [] (bts r)).map mkB)
  | 0, i, fl, r, a, hk, hi, hf, ha, ha', hs, hr => by
    obtain ⟨fl, rfl⟩ : ∃ q, fl = q + 1 := ⟨fl - 1, by omega⟩
    have hin : i = n := by omega
    rw [strings_genSplit_l2, hj]
    have c : decide ((i : Int) < (n : Int)) = false := by simp; omega
    rw [c, cond_false, genSplit_j1_eq (by omega) ha']
    rcases idx_cases (bts r) with h | ⟨q, h⟩
    · rw [indexByte_none h]; rfl
    · have h1 := (indexByte_some h).2 []
      have h2 := segs_pos [] ((bts r).drop (q + 1))
      rw [h1] at hs
      simp only [List.length_cons] at hs
      omega
  | k + 1, i, fl, r, a, hk, hi, hf, ha, ha', hs, hr => by
    obtain ⟨fl, rfl⟩ : ∃ q, fl = q + 1 := ⟨fl - 1, by omega⟩
    rw [strings_genSplit_l2, hj]
    have c : decide ((i : Int) < (n : Int)) = true := by simp; omega
    rw [c, cond_true, strings_Index_dot', bnd1_mk]
    rcases idx_cases (bts r) with h | ⟨q, h⟩
    · rw [indexByte_none h] at hs
      simp at hs
      omega
    · obtain ⟨h1, h2⟩ := indexByte_some h
      have h2 := h2 []
      rw [bts_len] at h1
      have hi' : i < a.length := by omega
      rw [h, dotB]
      have c' : decide ((q : Int) < 0) = false := by simp
      have e1 : ((i : Int) + 1) = ((i + 1 : Nat) : Int) := by omega
      rw [c', cond_false, grd_pos (by simp only [i64]; omega), grd_pos (by omega), idx_nat, List.getElem?_eq_getElem hi', bnd1_mk, grd_pos (by simp only [i64]; omega), grd_pos (by omega), grd_pos (by simp only [i64]; omega), e1]
      have e2 : bts (r.extract ((q : Int) + ((1 : Nat) : Int)).toNat (r.size : Int).toNat) = (bts r).drop (q + 1) := by
        rw [bts_extract]
        have e3 : ((q : Int) + ((1 : Nat) : Int)).toNat = q + 1 := by omega
        rw [e3, List.take_of_length_le (by rw [List.length_drop, bts_len]; omega)]
      rw [h2, List.length_cons] at hs
      rw [genSplit_l2_eq p0 j n hj k (i + 1) fl _ _ (by omega) (by omega) (by omega) (by simp [ha]) (by simp [ha']) (by rw [e2]; omega) (by rw [ByteArray.size_extract]; omega), e2, h2]
      congr 1
      rw [Int.toNat_natCast, List.take_add_one, List.take_set_of_le (Nat.le_refl i), List.getElem?_set_self hi', extract_mkB]
      have e4 : ((q : Int) + 0).toNat - ((0 : Nat) : Int).toNat = q := by omega
      rw [e4]
      simp

theorem strings_Count_dot {s : ByteArray} : strings_Count s ⟨#[46]⟩ = some ((Lib.countByte (bts s) 46 : Nat) : Int) := by
  unfold strings_Count
  have c1 : decide (((⟨#[46]⟩ : ByteArray).size : Int) = 0) = false := by rw [dotB]; decide
  have c2 : decide (((⟨#[46]⟩ : ByteArray).size : Int) = 1) = true := by rw [dotB]; decide
  have h46 : (46 : Int).toNat.toUInt8 = 46 := by decide
  rw [c1, cond_false, c2, cond_true, dot_sidx, bnd1_mk, h46]
  rfl

theorem i_Labels_eq {s : ByteArray} (hs : s.size ≤ 1048576) : i_Labels s = some (labels s) := by
  unfold i_Labels
  by_cases hne : s = ⟨#[]⟩
  · subst hne
    have e : bts (⟨#[]⟩ : ByteArray) = [] := rfl
    simp [labels, e]
  · have e : bts s ≠ [] := fun h => hne ((bts_nil_iff s).2 h)
    have hne' : ¬ ((⟨#[46]⟩ : ByteArray) = ⟨#[]⟩) := by decide
    have hc := count_segs (bts s) []
    have hl := segs_len (bts s) []
    rw [bts_len] at hl
    have e0 := strings_Count_dot (s := s)
    have hjj : (if (s.size : Int) + 1 < ((Lib.countByte (bts s) 46 : Nat) : Int) + 1 then (s.size : Int) + 1 else ((Lib.countByte (bts s) 46 : Nat) : Int) + 1) = ((Lib.countByte (bts s) 46 : Nat) : Int) + 1 := by rw [if_neg (by omega)]
    have hloop := genSplit_l2_eq s (((Lib.countByte (bts s) 46 : Nat) : Int) + 1) (Lib.countByte (bts s) 46) (by rw [hjj]; omega) (Lib.countByte (bts s) 46) 0 fuel0 s (List.replicate (((Lib.countByte (bts s) 46 : Nat) : Int) + 1).toNat ⟨#[]⟩) (by omega) (by omega) (by unfold fuel0; omega) (by simp) (by simp; omega) (by omega) hs
    have g0 : decide ((-1 : Int) = 0) = false := by decide
    have g1 : decide ((⟨#[46]⟩ : ByteArray) = ⟨#[]⟩) = false := decide_eq_false hne'
    have g2 : decide ((-1 : Int) < 0) = true := by decide
    rw [decide_eq_false hne, cond_false, strings_Split, strings_genSplit, g0, g1, g2, cond_false, cond_false, cond_true, e0, bnd1_mk, grd_pos (by simp only [i64]; omega), strings_genSplit_j0, hjj, grd_pos (by simp only [i64]; omega), grd_pos (by omega), grd_pos (by simp only [i64]; omega)]
    rw [Int.natCast_zero] at hloop
    rw [hloop, bnd1_mk, bnd1_mk]
    unfold labels
    rw [if_neg e, List.take_zero, List.nil_append]

theorem slices_IndexFunc_Record_l0_eq {g : Rec → Option Bool} {p : Rec → Bool} : ∀ (l : List Rec) (i : Nat), (∀ r, r ∈ l → g r = some (p r)) → ∃ v, slices_IndexFunc_Record_l0 g l i = some v ∧ decide (0 ≤ v) = l.any p
  | [], i, _ => ⟨-1, rfl, rfl⟩
  | r :: l, i, h => by
    rw [slices_IndexFunc_Record_l0, h r (.head _), bnd1_mk]
    cases c : p r with
    | true => exact ⟨i, rfl, by simp [c]⟩
    | false =>
      obtain ⟨v, h1, h2⟩ := slices_IndexFunc_Record_l0_eq l (i + 1) fun q hq => h q (.tail _ hq)
      exact ⟨v, h1, by simp [c, h2]⟩

theorem slices_ContainsFunc_Record_eq {g : Rec → Option Bool} {p : Rec → Bool} {l : List Rec} (h : ∀ r, r ∈ l → g r = some (p r)) : slices_ContainsFunc_Record l g = some (l.any p) := by
  obtain ⟨v, h1, h2⟩ := slices_IndexFunc_Record_l0_eq l 0 h
  unfold slices_ContainsFunc_Record slices_IndexFunc_Record
  rw [h1, bnd1_mk, h2]

theorem set_app {α : Type} (pre t : List α) (x y : α) : (pre ++ x :: t).set pre.length y = pre ++ y :: t := by simp

theorem get_app {α : Type} (pre t : List α) (x : α) : (pre ++ x :: t)[pre.length]? = some x := by simp

theorem rec_ext {a b : Rec} : (decide (a.name = b.name) && (decide (a.ty = b.ty) && (decide (a.ttl = b.ttl) && (decide (a.n = b.n) && (decide (a.host = b.host) && (decide (a.text = b.text) && true)))))) = decide (a = b) := by
  cases a; cases b
  simp [Bool.and_assoc]

def zt (r : Rec) : Rec := ⟨r.name, r.ty, 0, r.n, r.host, r.text⟩

theorem slices_Clone_Record_eq {l : List Rec} (h : l.length ≤ 1099511627776) : slices_Clone_Record l = some l := by
  unfold slices_Clone_Record
  rw [List.nil_append, grd_pos h]

def setTtl (k : Int) (r : Rec) : Rec := ⟨r.name, r.ty, k, r.n, r.host, r.text⟩

theorem i_WithTtl_l0_eq (k : Int) : ∀ (t pre : List Rec), i_WithTtl_l0 k t (pre ++ t) pre.length = some (pre ++ t.map (setTtl k))
  | [], pre => by simp [i_WithTtl_l0]
  | r :: t, pre => by
    rw [i_WithTtl_l0, idx_nat, get_app, bnd1_mk, Int.toNat_natCast, set_app]
    have h := i_WithTtl_l0_eq k t (pre ++ [setTtl k r])
    simp only [List.append_assoc, List.singleton_append, List.length_append, List.length_singleton] at h
    unfold setTtl at h ⊢
    rw [h]
    simp

theorem i_WithTtl_eq {l : List Rec} {k : Int} (h : l.length ≤ 1099511627776) : i_WithTtl l k = some (l.map (setTtl k)) := by
  unfold i_WithTtl
  rw [slices_Clone_Record_eq h, bnd1_mk]
  exact i_WithTtl_l0_eq k l []

def within (a b : List Rec) : Bool := a.all fun r => b.any fun x => decide (zt x = zt r)

theorem slices_Index_Record_l0_eq {r : Rec} : ∀ (l : List Rec) (i : Nat), ∃ v, slices_Index_Record_l0 r l i = some v ∧ decide (0 ≤ v) = l.any fun x => decide (r = x)
  | [], i => ⟨-1, rfl, rfl⟩
  | x :: l, i => by
    rw [slices_Index_Record_l0, rec_ext]
    by_cases c : r = x
    · exact ⟨i, by simp [c], by simp [c]⟩
    · obtain ⟨v, h1, h2⟩ := slices_Index_Record_l0_eq (r := r) l (i + 1)
      exact ⟨v, by simp [c, h1], by rw [h2]; simp [c]⟩

theorem slices_Contains_Record_eq {l : List Rec} {r : Rec} : slices_Contains_Record l r = some (l.any fun x => decide (r = x)) := by
  obtain ⟨v, h1, h2⟩ := slices_Index_Record_l0_eq (r := r) l 0
  unfold slices_Contains_Record slices_Index_Record
  rw [h1, bnd1_mk, h2]

theorem i_within_eq {a b : List Rec} (ha : a.length ≤ 1048576) (hb : b.length ≤ 1048576) : i_within a b = some (within a b) := by
  unfold i_within
  rw [i_WithTtl_eq (by omega), bnd1_mk, i_WithTtl_eq (by omega), bnd1_mk,
    slices_ContainsFunc_Record_eq (p := fun r => !(b.map (setTtl 0)).any fun x => decide (r = x)) fun r _ => by unfold i_within_1; rw [slices_Contains_Record_eq]; rfl]
  rw [bnd1_mk]
  congr 1
  unfold within
  rw [List.any_map, List.not_any_eq_all_not]
  congr 1
  funext r
  simp only [Function.comp, Bool.not_not, List.any_map]
  congr 1
  funext x
  exact decide_eq_decide.2 ⟨fun h => h.symm, fun h => h.symm⟩

theorem i_SameData_eq {a b : List Rec} (ha : a.length ≤ 1048576) (hb : b.length ≤ 1048576) : i_SameData a b = some (within a b && within b a) := by
  unfold i_SameData
  rw [i_within_eq ha hb, bnd1_mk, i_within_eq hb ha]
  cases within a b <;> rfl

def cap (n : Int) : Int := bif decide (1 ≤ n) && decide (n ≤ 60) then n else 1

theorem s_CacheNew_eq {n : Int} : s_CacheNew n = some (MCache.mk (cap n) []) := by
  unfold s_CacheNew s_l1In s_CacheNew_j0 cap
  cases decide (1 ≤ n) <;> cases decide (n ≤ 60) <;> rfl

theorem segs_mem : ∀ (l cur x : List UInt8), x ∈ segs cur l → x.length ≤ cur.length + l.length
  | [], cur, x, h => by
    unfold segs at h
    rw [List.mem_singleton] at h
    subst h; simp
  | b :: l, cur, x, h => by
    unfold segs at h
    split at h
    · rcases List.mem_cons.1 h with h | h
      · subst h; simp
      · have := segs_mem l [] x h
        simp at this ⊢; omega
    · have := segs_mem l (cur ++ [b]) x h
      simp at this ⊢; omega

theorem labels_mem {s x : ByteArray} (h : x ∈ labels s) : x.size ≤ s.size := by
  unfold labels at h
  split at h
  · cases h
  · obtain ⟨y, hy, e⟩ := List.mem_map.1 h
    have h1 := segs_mem _ _ _ hy
    subst e
    rw [← bts_len, bts_mkB, ← bts_len s]
    simpa using h1

def chP (n : Int) : Bool := (decide (97 ≤ n) && decide (n ≤ 122)) || ((decide (48 ≤ n) && decide (n ≤ 57)) || (decide (n = 45) || decide (n = 95)))

def labelP (s : ByteArray) : Bool := ((bts s).all fun b => chP b.toNat) && (decide (1 ≤ (s.size : Int)) && decide ((s.size : Int) ≤ 12))

theorem s_l1In_eq {a b c : Int} : s_l1In a b c = some (decide (b ≤ a) && decide (a ≤ c)) := by
  unfold s_l1In; cases decide (b ≤ a) <;> rfl

theorem s_l2Byte_eq {b : UInt8} : s_l2Byte (b.toNat : Int) = some (chP b.toNat) := by
  have h := b.toNat_lt
  unfold s_l2Byte chP
  rw [wrap_id (by omega), s_l1In_eq, bnd1_mk, s_l1In_eq, bnd1_mk]
  cases decide (97 ≤ (b.toNat : Int)) && decide ((b.toNat : Int) ≤ 122) <;> cases decide (48 ≤ (b.toNat : Int)) && decide ((b.toNat : Int) ≤ 57) <;> cases decide ((b.toNat : Int) = 45) <;> rfl

theorem drop_all {s : ByteArray} {i : Nat} {b : UInt8} {p : UInt8 → Bool} (h : (bts s)[i]? = some b) : ((bts s).drop i).all p = (p b && ((bts s).drop (i + 1)).all p) := by
  obtain ⟨h1, h2⟩ := List.getElem?_eq_some_iff.1 h
  rw [List.drop_eq_getElem_cons h1, List.all_cons, h2]

theorem bts_get {s : ByteArray} {i : Nat} (h : i < s.size) : ∃ b, (bts s)[i]? = some b := ⟨(bts s)[i]'h, List.getElem?_eq_getElem h⟩

theorem s_LabelOk_l1_eq {s : ByteArray} (hs : s.size ≤ 1048576) : ∀ (k i fl : Nat), s.size - i = k → i ≤ s.size → k < fl → s_LabelOk_l1 s fl (i : Int) = some (((bts s).drop i).all (fun b => chP b.toNat) && (decide (1 ≤ (s.size : Int)) && decide ((s.size : Int) ≤ 12)))
  | 0, i, fl, hk, hi, hf => by
    obtain ⟨fl, rfl⟩ : ∃ q, fl = q + 1 := ⟨fl - 1, by omega⟩
    have c : ¬ ((i : Int) < (s.size : Int)) := by omega
    have e : (bts s).drop i = [] := List.drop_eq_nil_of_le (by rw [bts_len]; omega)
    rw [s_LabelOk_l1, decide_eq_false c, cond_false, e]
    unfold s_LabelOk_j0
    rw [s_l1In_eq]; rfl
  | k + 1, i, fl, hk, hi, hf => by
    obtain ⟨fl, rfl⟩ : ∃ q, fl = q + 1 := ⟨fl - 1, by omega⟩
    have c : (i : Int) < (s.size : Int) := by omega
    obtain ⟨b, hb⟩ := bts_get (s := s) (i := i) (by omega)
    have h := s_LabelOk_l1_eq hs k (i + 1) fl (by omega) (by omega) (by omega)
    rw [s_LabelOk_l1, decide_eq_true c, cond_true, sidx_nat hb, bnd1_mk, s_l2Byte_eq, bnd1_mk, grd_pos (by simp only [i64]; omega)]
    have e : ((i : Int) + 1) = ((i + 1 : Nat) : Int) := by omega
    rw [e, h, drop_all hb]
    cases chP b.toNat <;> rfl

theorem fuel_lt {k : Nat} (h : k ≤ 1048576) : k < fuel0 := by unfold fuel0; omega

theorem s_LabelOk_eq {s : ByteArray} (hs : s.size ≤ 1048576) : s_LabelOk s = some (labelP s) := by
  have h := s_LabelOk_l1_eq hs s.size 0 fuel0 (by omega) (by omega) (fuel_lt hs)
  unfold s_LabelOk
  exact h

theorem i_LabelOk_l1_eq {s : ByteArray} (hs : s.size ≤ 1048576) : ∀ (k i fl : Nat), s.size - i = k → i ≤ s.size → k < fl → i_LabelOk_l1 s fl (i : Int) = some (((bts s).drop i).all (fun b => chP b.toNat) && (decide (1 ≤ (s.size : Int)) && decide ((s.size : Int) ≤ 12)))
  | 0, i, fl, hk, hi, hf => by
    obtain ⟨fl, rfl⟩ : ∃ q, fl = q + 1 := ⟨fl - 1, by omega⟩
    have c : ¬ ((i : Int) < (s.size : Int)) := by omega
    have e : (bts s).drop i = [] := List.drop_eq_nil_of_le (by rw [bts_len]; omega)
    rw [i_LabelOk_l1, decide_eq_false c, cond_false, e]
    unfold i_LabelOk_j0
    cases decide (1 ≤ (s.size : Int)) <;> rfl
  | k + 1, i, fl, hk, hi, hf => by
    obtain ⟨fl, rfl⟩ : ∃ q, fl = q + 1 := ⟨fl - 1, by omega⟩
    have c : (i : Int) < (s.size : Int) := by omega
    obtain ⟨b, hb⟩ := bts_get (s := s) (i := i) (by omega)
    have h := i_LabelOk_l1_eq hs k (i + 1) fl (by omega) (by omega) (by omega)
    rw [i_LabelOk_l1, decide_eq_true c, cond_true, sidx_nat hb, bnd1_mk]
    have e : ((i : Int) + 1) = ((i + 1 : Nat) : Int) := by omega
    have hj : ∀ y : Bool, i_LabelOk_j2 (i : Int) (i_LabelOk_l1 s fl) y = some (!y && (((bts s).drop (i + 1)).all (fun b => chP b.toNat) && (decide (1 ≤ (s.size : Int)) && decide ((s.size : Int) ≤ 12)))) := by
      intro y
      unfold i_LabelOk_j2
      rw [grd_pos (by simp only [i64]; omega), e, h]
      cases y <;> rfl
    simp only [hj]
    rw [drop_all hb]
    have hc : chP b.toNat = !(((decide ((b.toNat : Int) < 97)) || decide (122 < (b.toNat : Int))) && ((decide ((b.toNat : Int) < 48) || decide (57 < (b.toNat : Int))) && ((!decide ((b.toNat : Int) = 45)) && !decide ((b.toNat : Int) = 95)))) := by
      have e1 : decide (97 ≤ (b.toNat : Int)) = !decide ((b.toNat : Int) < 97) := by by_cases c : (b.toNat : Int) < 97 <;> simp [c] <;> omega
      have e2 : decide ((b.toNat : Int) ≤ 122) = !decide (122 < (b.toNat : Int)) := by by_cases c : 122 < (b.toNat : Int) <;> simp [c] <;> omega
      have e3 : decide (48 ≤ (b.toNat : Int)) = !decide ((b.toNat : Int) < 48) := by by_cases c : (b.toNat : Int) < 48 <;> simp [c] <;> omega
      have e4 : decide ((b.toNat : Int) ≤ 57) = !decide (57 < (b.toNat : Int)) := by by_cases c : 57 < (b.toNat : Int) <;> simp [c] <;> omega
      unfold chP
      rw [e1, e2, e3, e4]
      cases decide ((b.toNat : Int) < 97) <;> cases decide (122 < (b.toNat : Int)) <;> cases decide ((b.toNat : Int) < 48) <;> cases decide (57 < (b.toNat : Int)) <;> cases decide ((b.toNat : Int) = 45) <;> cases decide ((b.toNat : Int) = 95) <;> rfl
    rw [hc]
    rw [Bool.and_assoc]
    generalize (((bts s).drop (i + 1)).all (fun b => chP b.toNat) && (decide (1 ≤ (s.size : Int)) && decide ((s.size : Int) ≤ 12))) = R
    cases decide ((b.toNat : Int) < 97) <;> cases decide (122 < (b.toNat : Int)) <;> cases decide ((b.toNat : Int) < 48) <;> cases decide (57 < (b.toNat : Int)) <;> cases decide ((b.toNat : Int) = 45) <;> cases decide ((b.toNat : Int) = 95) <;> rfl

theorem i_LabelOk_eq {s : ByteArray} (hs : s.size ≤ 1048576) : i_LabelOk s = some (labelP s) := by
  have h := i_LabelOk_l1_eq hs s.size 0 fuel0 (by omega) (by omega) (fuel_lt hs)
  unfold i_LabelOk
  exact h

def nameP (s : ByteArray) : Bool := (labels s).all labelP && (decide ((s.size : Int) ≤ 50) && decide (((labels s).length : Int) ≤ 6))

theorem s_NameOk_l1_eq {s : ByteArray} : ∀ (l : List ByteArray) (i : Nat), (∀ x, x ∈ l → x.size ≤ 1048576) → s_NameOk_l1 s (labels s) l i = some (l.all labelP && (decide ((s.size : Int) ≤ 50) && decide (((labels s).length : Int) ≤ 6)))
  | [], i, _ => by
    rw [s_NameOk_l1]; unfold s_NameOk_j0
    cases decide ((s.size : Int) ≤ 50) <;> rfl
  | x :: l, i, h => by
    rw [s_NameOk_l1, s_LabelOk_eq (h x (.head _)), bnd1_mk, s_NameOk_l1_eq l (i + 1) fun y hy => h y (.tail _ hy), List.all_cons]
    cases labelP x <;> rfl

theorem s_NameOk_eq {s : ByteArray} (hs : s.size ≤ 1048576) : s_NameOk s = some (nameP s) := by
  unfold s_NameOk
  rw [s_Labels_eq hs, bnd1_mk, s_NameOk_l1_eq _ _ fun x hx => Nat.le_trans (labels_mem hx) hs]; rfl

theorem slices_IndexFunc_string_l0_eq {g : ByteArray → Option Bool} {p : ByteArray → Bool} : ∀ (l : List ByteArray) (i : Nat), (∀ r, r ∈ l → g r = some (p r)) → ∃ v, slices_IndexFunc_string_l0 g l i = some v ∧ decide (0 ≤ v) = l.any p
  | [], i, _ => ⟨-1, rfl, rfl⟩
  | r :: l, i, h => by
    rw [slices_IndexFunc_string_l0, h r (.head _), bnd1_mk]
    cases c : p r with
    | true => exact ⟨i, rfl, by simp [c]⟩
    | false =>
      obtain ⟨v, h1, h2⟩ := slices_IndexFunc_string_l0_eq l (i + 1) fun q hq => h q (.tail _ hq)
      exact ⟨v, h1, by simp [c, h2]⟩

theorem slices_ContainsFunc_string_eq {g : ByteArray → Option Bool} {p : ByteArray → Bool} {l : List ByteArray} (h : ∀ r, r ∈ l → g r = some (p r)) : slices_ContainsFunc_string l g = some (l.any p) := by
  obtain ⟨v, h1, h2⟩ := slices_IndexFunc_string_l0_eq l 0 h
  unfold slices_ContainsFunc_string slices_IndexFunc_string
  rw [h1, bnd1_mk, h2]

theorem any_not_all {α : Type} (p : α → Bool) : ∀ l : List α, (!l.any fun x => !p x) = l.all p
  | [] => rfl
  | x :: l => by rw [List.any_cons, List.all_cons, ← any_not_all p l]; cases p x <;> simp

theorem i_NameOk_eq {s : ByteArray} (hs : s.size ≤ 1048576) : i_NameOk s = some (nameP s) := by
  unfold i_NameOk nameP
  rw [i_Labels_eq hs, bnd1_mk, slices_ContainsFunc_string_eq (p := fun x => !labelP x) fun r hr => by unfold i_NameOk_1; rw [i_LabelOk_eq (Nat.le_trans (labels_mem hr) hs)]; rfl, bnd1_mk, any_not_all]
  cases decide ((s.size : Int) ≤ 50) <;> cases decide (((labels s).length : Int) ≤ 6) <;> cases (labels s).all labelP <;> rfl

def typeP (k : Int) : Bool := decide (k = 1) || (decide (k = 2) || (decide (k = 5) || (decide (k = 6) || decide (k = 16))))

theorem s_TypeOk_eq {k : Int} : s_TypeOk k = some (typeP k) := by
  unfold s_TypeOk typeP
  cases decide (k = 1) <;> cases decide (k = 2) <;> cases decide (k = 5) <;> cases decide (k = 6) <;> rfl

theorem i_TypeOk_eq {k : Int} : i_TypeOk k = some (typeP k) := by
  have e : ∀ a : ByteArray, bnd1 (some a) (fun x1 => some (!decide (x1 = (⟨#[]⟩ : ByteArray)))) = some (!decide (a = (⟨#[]⟩ : ByteArray))) := fun _ => rfl
  unfold i_TypeOk i_TypeText typeP
  cases decide (k = 1) <;> cases decide (k = 2) <;> cases decide (k = 5) <;> cases decide (k = 6) <;> cases decide (k = 16) <;> rfl

def questP (q : Quest) : Bool := nameP q.name && typeP q.ty

theorem s_QuestOk_eq {q : Quest} (h : q.sm) : s_QuestOk q = some (questP q) := by
  unfold s_QuestOk questP
  rw [s_NameOk_eq h, bnd1_mk, s_TypeOk_eq]
  cases nameP q.name <;> rfl

theorem i_QuestOk_eq {q : Quest} (h : q.sm) : i_QuestOk q = some (questP q) := by
  unfold i_QuestOk questP
  rw [i_NameOk_eq h, bnd1_mk, i_TypeOk_eq]
  cases nameP q.name <;> rfl

theorem textTail {s : ByteArray} {i : Nat} (h : ¬ ((i : Int) < (s.size : Int))) : (bts s).drop i = [] := List.drop_eq_nil_of_le (by rw [bts_len]; omega)

def txP (n : Int) : Bool := decide (33 ≤ n) && decide (n ≤ 126)

def textP (s : ByteArray) : Bool := ((bts s).all fun b => txP b.toNat) && decide ((s.size : Int) ≤ 12)

theorem s_l5Text_l1_eq {s : ByteArray} (hs : s.size ≤ 1048576) : ∀ (k i fl : Nat), s.size - i = k → i ≤ s.size → k < fl → s_l5Text_l1 s fl (i : Int) = some (((bts s).drop i).all (fun b => txP b.toNat) && decide ((s.size : Int) ≤ 12))
  | 0, i, fl, hk, hi, hf => by
    obtain ⟨fl, rfl⟩ : ∃ q, fl = q + 1 := ⟨fl - 1, by omega⟩
    have c : ¬ ((i : Int) < (s.size : Int)) := by omega
    rw [s_l5Text_l1, decide_eq_false c, cond_false, textTail c]
    rfl
  | k + 1, i, fl, hk, hi, hf => by
    obtain ⟨fl, rfl⟩ : ∃ q, fl = q + 1 := ⟨fl - 1, by omega⟩
    have c : (i : Int) < (s.size : Int) := by omega
    obtain ⟨b, hb⟩ := bts_get (s := s) (i := i) (by omega)
    have hl := b.toNat_lt
    have h := s_l5Text_l1_eq hs k (i + 1) fl (by omega) (by omega) (by omega)
    have e : ((i : Int) + 1) = ((i + 1 : Nat) : Int) := by omega
    rw [s_l5Text_l1, decide_eq_true c, cond_true, sidx_nat hb, bnd1_mk, wrap_id (by omega), s_l1In_eq, bnd1_mk, grd_pos (by simp only [i64]; omega), e, h, drop_all hb, Bool.and_assoc]
    unfold txP
    cases decide (33 ≤ (b.toNat : Int)) && decide ((b.toNat : Int) ≤ 126) <;> rfl

theorem s_l5Text_eq {s : ByteArray} (hs : s.size ≤ 1048576) : s_l5Text s = some (textP s) := by
  have h := s_l5Text_l1_eq hs s.size 0 fuel0 (by omega) (by omega) (fuel_lt hs)
  unfold s_l5Text
  exact h

theorem i_isText_l1_eq {s : ByteArray} (hs : s.size ≤ 1048576) : ∀ (k i fl : Nat), s.size - i = k → i ≤ s.size → k < fl → i_isText_l1 s fl (i : Int) = some (((bts s).drop i).all (fun b => txP b.toNat) && decide ((s.size : Int) ≤ 12))
  | 0, i, fl, hk, hi, hf => by
    obtain ⟨fl, rfl⟩ : ∃ q, fl = q + 1 := ⟨fl - 1, by omega⟩
    have c : ¬ ((i : Int) < (s.size : Int)) := by omega
    rw [i_isText_l1, decide_eq_false c, cond_false, textTail c]
    rfl
  | k + 1, i, fl, hk, hi, hf => by
    obtain ⟨fl, rfl⟩ : ∃ q, fl = q + 1 := ⟨fl - 1, by omega⟩
    have c : (i : Int) < (s.size : Int) := by omega
    obtain ⟨b, hb⟩ := bts_get (s := s) (i := i) (by omega)
    have h := i_isText_l1_eq hs k (i + 1) fl (by omega) (by omega) (by omega)
    have e : ((i : Int) + 1) = ((i + 1 : Nat) : Int) := by omega
    have hj : ∀ y : Bool, i_isText_j2 (i : Int) (i_isText_l1 s fl) y = some (!y && (((bts s).drop (i + 1)).all (fun b => txP b.toNat) && decide ((s.size : Int) ≤ 12))) := by
      intro y
      unfold i_isText_j2
      rw [grd_pos (by simp only [i64]; omega), e, h]
      cases y <;> rfl
    rw [i_isText_l1, decide_eq_true c, cond_true, sidx_nat hb, bnd1_mk, bnd1_mk, hj, hj, drop_all hb, Bool.and_assoc]
    have e1 : decide (33 ≤ (b.toNat : Int)) = !decide ((b.toNat : Int) < 33) := by by_cases c : (b.toNat : Int) < 33 <;> simp [c] <;> omega
    have e2 : decide ((b.toNat : Int) ≤ 126) = !decide (126 < (b.toNat : Int)) := by by_cases c : 126 < (b.toNat : Int) <;> simp [c] <;> omega
    unfold txP
    rw [e1, e2]
    generalize (((bts s).drop (i + 1)).all (fun b => decide (33 ≤ (b.toNat : Int)) && decide ((b.toNat : Int) ≤ 126)) && decide ((s.size : Int) ≤ 12)) = R
    cases decide ((b.toNat : Int) < 33) <;> cases decide (126 < (b.toNat : Int)) <;> rfl

theorem i_isText_eq {s : ByteArray} (hs : s.size ≤ 1048576) : i_isText s = some (textP s) := by
  have h := i_isText_l1_eq hs s.size 0 fuel0 (by omega) (by omega) (fuel_lt hs)
  unfold i_isText
  exact h

def inP (a b c : Int) : Bool := decide (b ≤ a) && decide (a ≤ c)

theorem i_isTtl_eq {a : Int} : i_isTtl a = some (inP a 0 100000) := by
  unfold i_isTtl inP; cases decide (0 ≤ a) <;> rfl

theorem i_isFour_eq {a : Int} : i_isFour a = some (inP a 0 2147483647) := by
  unfold i_isFour inP; cases decide (0 ≤ a) <;> rfl

def nilP (s : ByteArray) : Bool := decide (s = (⟨#[]⟩ : ByteArray))

def recP (r : Rec) : Bool :=
  nameP r.name && (inP r.ttl 0 100000 && (bif decide (r.ty = 1) then inP r.n 0 2147483647 && (nilP r.host && nilP r.text) else (bif decide (r.ty = 2) || decide (r.ty = 5) then decide (r.n = 0) && (nameP r.host && nilP r.text)
    else (bif decide (r.ty = 6) then inP r.n 0 100000 && (nameP r.host && nilP r.text) else decide (r.ty = 16) && (decide (r.n = 0) && (nilP r.host && textP r.text))))))

theorem s_RecordOk_eq {r : Rec} (h : r.sm) : s_RecordOk r = some (recP r) := by
  obtain ⟨h1, h2, h3⟩ := h
  unfold s_RecordOk s_RecordOk_j0 s_RecordOk_j1 recP nilP
  rw [s_NameOk_eq h1, bnd1_mk, s_l1In_eq, bnd1_mk, s_l1In_eq, bnd1_mk, s_l1In_eq, bnd1_mk, s_NameOk_eq h2, bnd1_mk, s_l5Text_eq h3, bnd1_mk]
  unfold inP
  generalize (decide (0 ≤ r.ttl) && decide (r.ttl ≤ 100000)) = a
  generalize (decide (0 ≤ r.n) && decide (r.n ≤ 2147483647)) = b
  generalize (decide (0 ≤ r.n) && decide (r.n ≤ 100000)) = d
  cases nameP r.name <;> cases a <;> cases decide (r.ty = 1) <;> cases decide (r.ty = 2) <;> cases decide (r.ty = 5) <;> cases decide (r.ty = 6) <;> cases decide (r.ty = 16) <;> try rfl
  all_goals (cases b <;> cases d <;> cases decide (r.n = 0) <;> cases nameP r.host <;> cases decide (r.host = (⟨#[]⟩ : ByteArray)) <;> rfl)

theorem i_RecordOk_eq {r : Rec} (h : r.sm) : i_RecordOk r = some (recP r) := by
  obtain ⟨h1, h2, h3⟩ := h
  unfold i_RecordOk i_RecordOk_j0 i_RecordOk_j1 recP nilP
  rw [i_NameOk_eq h1, bnd1_mk, i_isTtl_eq, bnd1_mk, i_isFour_eq, bnd1_mk, i_isTtl_eq, bnd1_mk, i_NameOk_eq h2, bnd1_mk, i_isText_eq h3, bnd1_mk]
  generalize inP r.ttl 0 100000 = a
  generalize inP r.n 0 2147483647 = b
  generalize inP r.n 0 100000 = d
  cases nameP r.name <;> cases a <;> cases decide (r.ty = 1) <;> cases decide (r.ty = 2) <;> cases decide (r.ty = 5) <;> cases decide (r.ty = 6) <;> cases decide (r.ty = 16) <;> try rfl
  all_goals (cases b <;> cases d <;> cases decide (r.n = 0) <;> cases nameP r.host <;> cases decide (r.host = (⟨#[]⟩ : ByteArray)) <;> rfl)

def listP (k : Int) (l : List Rec) : Bool := l.all recP && decide ((l.length : Int) ≤ k)

theorem s_l7List_l1_eq {w : List Rec} : ∀ (l : List Rec) (i : Nat), (∀ r, r ∈ l → r.sm) → s_l7List_l1 w l i = some (l.all recP && decide ((w.length : Int) ≤ 8))
  | [], i, _ => rfl
  | r :: l, i, h => by
    rw [s_l7List_l1, s_RecordOk_eq (h r (.head _)), bnd1_mk, s_l7List_l1_eq l (i + 1) fun q hq => h q (.tail _ hq), List.all_cons]
    cases recP r <;> rfl

theorem s_l7List_eq {l : List Rec} (h : smL l) : s_l7List l = some (listP 8 l) := s_l7List_l1_eq l 0 h.2

theorem i_allOk_eq {l : List Rec} {k : Int} (h : smL l) : i_allOk l k = some (listP k l) := by
  unfold i_allOk listP
  rw [slices_ContainsFunc_Record_eq (p := fun r => !recP r) fun r hr => by unfold i_allOk_1; rw [i_RecordOk_eq (h.2 r hr)]; rfl, bnd1_mk, any_not_all]
  cases decide ((l.length : Int) ≤ k) <;> cases l.all recP <;> rfl

def MEntry.sm (x : MEntry) : Prop := x.q.sm ∧ smL x.l

def sameQ (q : Quest) (r : Rec) : Bool := decide (r.name = q.name) && decide (r.ty = q.ty)

def entryP (e : MEntry) : Bool :=
  inP e.rank 1 3 && (!decide (e.til < 0) && (bif decide (e.kind = 0) then e.l.all (sameQ e.q) && (questP e.q && (decide (0 < (e.l.length : Int)) && listP 8 e.l))
    else (bif decide (e.kind = 1) then questP e.q && decide ((e.l.length : Int) = 0) else decide (e.kind = 2) && (nameP e.q.name && (decide (e.q.ty = 0) && decide ((e.l.length : Int) = 0))))))

theorem s_EntryOk_l3_eq {e : MEntry} (h : e.sm) : ∀ (l : List Rec) (i : Nat), s_EntryOk_l3 e l i = some (l.all (sameQ e.q) && (questP e.q && (decide (0 < (e.l.length : Int)) && listP 8 e.l)))
  | [], i => by
    rw [s_EntryOk_l3]
    unfold s_EntryOk_j2
    rw [s_QuestOk_eq h.1, bnd1_mk, s_l7List_eq h.2, bnd1_mk]
    cases questP e.q <;> cases decide (0 < (e.l.length : Int)) <;> rfl
  | r :: l, i => by
    have hj : ∀ y, s_EntryOk_j4 i (s_EntryOk_l3 e l) y = some (!y && (l.all (sameQ e.q) && (questP e.q && (decide (0 < (e.l.length : Int)) && listP 8 e.l)))) := by
      intro y
      unfold s_EntryOk_j4
      rw [s_EntryOk_l3_eq h l (i + 1)]
      cases y <;> rfl
    rw [s_EntryOk_l3, hj, hj, List.all_cons]
    unfold sameQ
    cases decide (r.name = e.q.name) <;> cases decide (r.ty = e.q.ty) <;> rfl

theorem s_EntryOk_eq {e : MEntry} (h : e.sm) : s_EntryOk e = some (entryP e) := by
  unfold s_EntryOk s_EntryOk_j0 s_EntryOk_j1 entryP
  rw [s_l1In_eq, bnd1_mk, s_EntryOk_l3_eq h, s_QuestOk_eq h.1, bnd1_mk, s_NameOk_eq h.1, bnd1_mk]
  unfold inP
  generalize (decide (1 ≤ e.rank) && decide (e.rank ≤ 3)) = a
  cases a <;> cases decide (e.til < 0) <;> cases decide (e.kind = 0) <;> cases decide (e.kind = 1) <;> cases decide (e.kind = 2) <;> cases questP e.q <;> cases nameP e.q.name <;> cases decide (e.q.ty = 0) <;> rfl

theorem setOf_all {l : List Rec} {q : Quest} : decide (((setOf l q.name q.ty).length : Int) = (l.length : Int)) = l.all (sameQ q) := by
  have h : ((setOf l q.name q.ty).length = l.length) ↔ (l.all (sameQ q) = true) := by
    rw [List.all_eq_true]
    unfold setOf
    rw [List.length_filter_eq_length_iff]
    rfl
  by_cases c : l.all (sameQ q) = true
  · rw [c]; exact decide_eq_true (by rw [h.2 c])
  · have c2 : ¬ ((setOf l q.name q.ty).length = l.length) := fun x => c (h.1 x)
    rw [Bool.not_eq_true] at c
    rw [c]; exact decide_eq_false (by omega)

theorem i_EntryOk_eq {e : MEntry} (h : e.sm) : i_EntryOk e = some (entryP e) := by
  unfold i_EntryOk i_EntryOk_j0 entryP
  rw [i_QuestOk_eq h.1, bnd1_mk, bnd1_mk, i_NameOk_eq h.1, bnd1_mk, i_allOk_eq h.2, bnd1_mk, i_SetOf_eq h.2, bnd1_mk, setOf_all]
  unfold inP
  have e1 : decide (1 ≤ e.rank) = !decide (e.rank < 1) := by by_cases c : e.rank < 1 <;> simp [c] <;> omega
  have e2 : decide (e.rank ≤ 3) = !decide (3 < e.rank) := by by_cases c : 3 < e.rank <;> simp [c] <;> omega
  rw [e1, e2]
  cases decide (e.rank < 1) <;> cases decide (3 < e.rank) <;> cases decide (e.til < 0) <;> cases decide (e.kind = 0) <;> cases decide (e.kind = 1) <;> cases decide (e.kind = 2) <;> try rfl
  all_goals (cases questP e.q <;> cases nameP e.q.name <;> cases decide (e.q.ty = 0) <;> try rfl)
  all_goals (cases decide (0 < (e.l.length : Int)) <;> cases listP 8 e.l <;> cases e.l.all (sameQ e.q) <;> rfl)

def Cur.inv (c : Cur) : Prop := 0 ≤ c.i ∧ c.b.length ≤ 1048576

theorem iand_255 (x : Int) : 0 ≤ iand .i64 x 255 ∧ iand .i64 x 255 ≤ 255 := by
  unfold iand
  have h : (BitVec.ofInt (IntKind.i64).bits x &&& BitVec.ofInt (IntKind.i64).bits 255).toNat ≤ 255 := by
    rw [BitVec.toNat_and]; exact Nat.le_trans Nat.and_le_right (by decide)
  generalize (BitVec.ofInt (IntKind.i64).bits x &&& BitVec.ofInt (IntKind.i64).bits 255).toNat = n at h
  rw [wrap_id (by omega)]; omega

theorem idx_ok {α : Type} {l : List α} {i : Int} (h0 : 0 ≤ i) (h1 : i < l.length) : ∃ x, idx l i = some x ∧ x ∈ l := by
  have h2 : i.toNat < l.length := by omega
  exact ⟨l[i.toNat], by unfold idx; rw [if_pos h0, List.getElem?_eq_getElem h2], List.getElem_mem h2⟩

theorem s_l1Byte_p {c : Cur} (h : c.inv) : ∃ x d, s_l1Byte c = some (x, d) ∧ d.inv ∧ 0 ≤ x ∧ x ≤ 255 := by
  obtain ⟨h1, h2⟩ := h
  unfold s_l1Byte
  by_cases p : c.i < (c.b.length : Int)
  · obtain ⟨y, hy, -⟩ := idx_ok h1 p
    rw [decide_eq_true p, cond_true, hy, bnd1_mk]
    exact ⟨_, _, rfl, ⟨by show 0 ≤ IntKind.i64.wrap (c.i + 1); rw [wrap_id (by omega)]; omega, h2⟩, (iand_255 _).1, (iand_255 _).2⟩
  · rw [decide_eq_false p, cond_false]
    exact ⟨_, _, rfl, ⟨h1, h2⟩, (iand_255 _).1, (iand_255 _).2⟩

theorem s_l1Below_p {c : Cur} {n : Int} (h : c.inv) (h1 : 0 < n) (h2 : n ≤ 256) : ∃ x d, s_l1Below c n = some (x, d) ∧ d.inv ∧ 0 ≤ x ∧ x < n := by
  obtain ⟨x, d, e, hd, hx, hy⟩ := s_l1Byte_p h
  have c1 : ¬ (n ≤ 0) := by omega
  unfold s_l1Below
  rw [decide_eq_false c1, cond_false, decide_eq_true h2, cond_true, e, bnd2_mk, grd_pos (by omega)]
  exact ⟨_, _, rfl, hd, Int.tmod_nonneg n hx, Int.tmod_lt_of_pos x h1⟩

theorem s_l1Once_p {c : Cur} {n : Int} (h : c.inv) (h1 : 0 < n) (h2 : n ≤ 256) : ∃ x d, s_l1Once c n = some (x, d) ∧ d.inv := by
  obtain ⟨x, d, e, hd, -, -⟩ := s_l1Below_p h h1 h2
  unfold s_l1Once
  rw [e, bnd2_mk]
  exact ⟨_, _, rfl, hd⟩

theorem s_l1Str_p {c : Cur} {l : List ByteArray} (h : c.inv) (h1 : 0 < l.length) (h2 : l.length ≤ 256) : ∃ x d, s_l1Str c l = some (x, d) ∧ d.inv ∧ x ∈ l := by
  obtain ⟨x, d, e, hd, hx, hy⟩ := s_l1Below_p (n := (l.length : Int)) h (by omega) (by omega)
  obtain ⟨y, e2, hm⟩ := idx_ok hx hy
  unfold s_l1Str
  rw [e, bnd2_mk, e2, bnd1_mk]
  exact ⟨_, _, rfl, hd, hm⟩

theorem s_l1Int_p {c : Cur} {l : List Int} (h : c.inv) (h1 : 0 < l.length) (h2 : l.length ≤ 256) : ∃ x d, s_l1Int c l = some (x, d) ∧ d.inv ∧ x ∈ l := by
  obtain ⟨x, d, e, hd, hx, hy⟩ := s_l1Below_p (n := (l.length : Int)) h (by omega) (by omega)
  obtain ⟨y, e2, hm⟩ := idx_ok hx hy
  unfold s_l1Int
  rw [e, bnd2_mk, e2, bnd1_mk]
  exact ⟨_, _, rfl, hd, hm⟩

theorem small_of {l : List ByteArray} {x : ByteArray} (h : (l.all fun y => Nat.ble y.size 1048576) = true) (hx : x ∈ l) : x.size ≤ 1048576 := Nat.le_of_ble_eq_true (List.all_eq_true.1 h x hx)

theorem s_l3Name_p {c : Cur} (h : c.inv) : ∃ x d, s_l3Name c = some (x, d) ∧ d.inv ∧ x.size ≤ 1048576 := by
  unfold s_l3Name
  refine (fun {l : List ByteArray} (h1 : 0 < l.length) (h2 : l.length ≤ 256) (h3 : (l.all fun y => Nat.ble y.size 1048576) = true) => ?_ : ∀ {l : List ByteArray}, 0 < l.length → l.length ≤ 256 → (l.all fun y => Nat.ble y.size 1048576) = true → ∃ x d, bnd2 (s_l1Str c l) (fun x1 x2 => some (x1, x2)) = some (x, d) ∧ d.inv ∧ x.size ≤ 1048576) (by decide) (by decide) rfl
  obtain ⟨x, d, e, hd, hm⟩ := s_l1Str_p h h1 h2
  rw [e, bnd2_mk]
  exact ⟨_, _, rfl, hd, small_of h3 hm⟩

theorem s_l5Type_p {c : Cur} (h : c.inv) : ∃ x d, s_l5Type c = some (x, d) ∧ d.inv ∧ x ∈ [1, 1, 1, 2, 2, 5, 6, 16] := by
  obtain ⟨x, d, e, hd, hm⟩ := s_l1Int_p (l := [1, 1, 1, 2, 2, 5, 6, 16]) h (by decide) (by decide)
  unfold s_l5Type
  rw [e, bnd2_mk]
  exact ⟨_, _, rfl, hd, hm⟩

theorem size_nil : (⟨#[]⟩ : ByteArray).size ≤ 1048576 := by decide

theorem s_l5Draw_j0_p {x : ByteArray} {k t : Int} {c : Cur} {b : Bool} (h : c.inv) (hx : x.size ≤ 1048576) : ∃ r d, s_l5Draw_j0 x k t c b = some (r, d) ∧ d.inv ∧ r.sm := by
  unfold s_l5Draw_j0
  obtain ⟨y, d, e, hd, hy⟩ := s_l3Name_p h
  obtain ⟨z, d2, e2, hd2, -⟩ := s_l1Int_p (l := [0, 5, 60]) hd (by decide) (by decide)
  obtain ⟨w, d3, e3, hd3, hw⟩ := s_l1Str_p (l := [(⟨#[]⟩ : ByteArray), (⟨#[104, 105]⟩ : ByteArray), (⟨#[116, 119, 101, 108, 118, 101, 98, 121, 116, 101, 115, 33]⟩ : ByteArray)]) h (by decide) (by decide)
  have hw2 := small_of rfl hw
  cases b with
  | true => rw [cond_true, e, bnd2_mk]; exact ⟨_, _, rfl, hd, hx, hy, size_nil⟩
  | false =>
    rw [cond_false]
    cases decide (k = 6) with
    | true => rw [cond_true, e, bnd2_mk, e2, bnd2_mk]; exact ⟨_, _, rfl, hd2, hx, hy, size_nil⟩
    | false =>
      rw [cond_false]
      cases decide (k = 16) with
      | true => rw [cond_true, e3, bnd2_mk]; exact ⟨_, _, rfl, hd3, hx, size_nil, hw2⟩
      | false => exact ⟨_, _, rfl, h, hx, size_nil, size_nil⟩

theorem s_l5Draw_p {c : Cur} (h : c.inv) : ∃ r d, s_l5Draw c = some (r, d) ∧ d.inv ∧ r.sm := by
  unfold s_l5Draw
  obtain ⟨x, d1, e1, h1, hx⟩ := s_l3Name_p h
  obtain ⟨k, d2, e2, h2, -⟩ := s_l5Type_p h1
  obtain ⟨t, d3, e3, h3, -⟩ := s_l1Int_p (l := [0, 1, 5, 60, 300, 100000]) h2 (by decide) (by decide)
  obtain ⟨n, d4, e4, h4, hn, hn2⟩ := s_l1Below_p (n := 9) h3 (by omega) (by omega)
  rw [e1, bnd2_mk, e2, bnd2_mk, e3, bnd2_mk]
  cases decide (k = 1) with
  | true => rw [cond_true, e4, bnd2_mk, grd_pos (by simp only [i64]; omega)]; exact ⟨_, _, rfl, h4, hx, size_nil, size_nil⟩
  | false =>
    rw [cond_false]
    cases decide (k = 2) with
    | true => rw [cond_true]; exact s_l5Draw_j0_p h3 hx
    | false => rw [cond_false]; exact s_l5Draw_j0_p h3 hx

theorem s_l1New_l1_p {b : List Int} (hb : b.length ≤ 1048576) : ∀ (k fl i : Nat) (h : Int), b.length - i = k → i ≤ b.length → k < fl → ∃ c, s_l1New_l1 b fl h (i : Int) = some c ∧ c.inv
  | 0, fl, i, h, hk, hi, hf => by
    obtain ⟨fl, rfl⟩ : ∃ q, fl = q + 1 := ⟨fl - 1, by omega⟩
    have c1 : ¬ ((i : Int) < (b.length : Int)) := by omega
    rw [s_l1New_l1, decide_eq_false c1, cond_false]
    exact ⟨_, rfl, Int.le_refl 0, hb⟩
  | k + 1, fl, i, h, hk, hi, hf => by
    obtain ⟨fl, rfl⟩ : ∃ q, fl = q + 1 := ⟨fl - 1, by omega⟩
    have c1 : (i : Int) < (b.length : Int) := by omega
    rw [s_l1New_l1, decide_eq_true c1, cond_true]
    unfold s_l1New_j2
    cases decide ((i : Int) < 4000) with
    | false => exact ⟨_, rfl, Int.le_refl 0, hb⟩
    | true =>
      obtain ⟨x, hx, -⟩ := idx_ok (l := b) (i := (i : Int)) (by omega) c1
      have e : IntKind.i64.wrap ((i : Int) + 1) = ((i + 1 : Nat) : Int) := by rw [wrap_id (by omega)]; omega
      rw [cond_true, hx, bnd1_mk, e]
      exact s_l1New_l1_p hb k fl (i + 1) _ (by omega) (by omega) (by omega)

theorem s_l1New_p {b : List Int} (hb : b.length ≤ 1048576) : ∃ c, s_l1New b = some c ∧ c.inv := s_l1New_l1_p hb b.length fuel0 0 _ (by omega) (by omega) (fuel_lt hb)

theorem w_sameRecs_l0_self : ∀ (t pre : List Rec), w_sameRecs_l0 (pre ++ t) t pre.length = some true
  | [], pre => rfl
  | r :: t, pre => by
    have h := w_sameRecs_l0_self t (pre ++ [r])
    rw [w_sameRecs_l0, idx_nat, get_app, bnd1_mk, rec_ext, decide_eq_true rfl, Bool.not_true, cond_false]
    simpa using h

theorem w_sameRecs_self {l : List Rec} : w_sameRecs l l = some true := by
  unfold w_sameRecs
  rw [decide_eq_true rfl, Bool.not_true, cond_false]
  exact w_sameRecs_l0_self l []

theorem bL_irr : ∀ x : List UInt8, Op.bytesLess x x = false
  | [] => rfl
  | a :: x => by simp [Op.bytesLess, bL_irr x, UInt8.lt_irrefl]

theorem bL_trans : ∀ x y z : List UInt8, Op.bytesLess x y = true → Op.bytesLess y z = true → Op.bytesLess x z = true
  | [], [], _, h, _ => by simp [Op.bytesLess] at h
  | [], _ :: _, [], _, h => by simp [Op.bytesLess] at h
  | [], _ :: _, _ :: _, _, _ => rfl
  | _ :: _, [], _, h, _ => by simp [Op.bytesLess] at h
  | _ :: _, _ :: _, [], _, h => by simp [Op.bytesLess] at h
  | a :: x, b :: y, c :: z, h, k => by
    simp only [Op.bytesLess, Bool.or_eq_true, decide_eq_true_eq, Bool.and_eq_true, beq_iff_eq] at h k ⊢
    rcases h with h | ⟨h, h'⟩ <;> rcases k with k | ⟨k, k'⟩
    · exact .inl (UInt8.lt_trans h k)
    · exact .inl (k ▸ h)
    · exact .inl (h ▸ k)
    · exact .inr ⟨h.trans k, bL_trans x y z h' k'⟩

def bl (a b : ByteArray) : Bool := Op.bytesLess (bts a) (bts b)

theorem bl_irr (a : ByteArray) : bl a a = false := bL_irr _

theorem bl_trans (a b c : ByteArray) (h : bl a b = true) (k : bl b c = true) : bl a c = true := bL_trans _ _ _ h k

def lexN : List ByteArray → List ByteArray → Bool
  | _, [] => false
  | [], _ :: _ => true
  | x :: xs, y :: ys => if x = y then lexN xs ys else bl x y

theorem lexN_irr : ∀ x : List ByteArray, lexN x x = false
  | [] => rfl
  | a :: x => by simp [lexN, lexN_irr x]

theorem lexN_trans : ∀ x y z : List ByteArray, lexN x y = true → lexN y z = true → lexN x z = true
  | [], [], _, h, _ => by simp [lexN] at h
  | [], _ :: _, [], _, h => by simp [lexN] at h
  | [], _ :: _, _ :: _, _, _ => rfl
  | _ :: _, [], _, h, _ => by simp [lexN] at h
  | _ :: _, _ :: _, [], _, h => by simp [lexN] at h
  | a :: x, b :: y, c :: z, h, k => by
    unfold lexN at h k ⊢
    by_cases e1 : a = b
    · subst e1
      rw [if_pos rfl] at h
      by_cases e2 : a = c
      · rw [if_pos e2] at k ⊢; exact lexN_trans x y z h k
      · rw [if_neg e2] at k ⊢; exact k
    · rw [if_neg e1] at h
      by_cases e2 : b = c
      · subst e2; rw [if_neg e1]; exact h
      · rw [if_neg e2] at k
        have h3 := bl_trans a b c h k
        by_cases e3 : a = c
        · subst e3; rw [bl_irr] at h3; cases h3
        · rw [if_neg e3]; exact h3

def lessN (a b : ByteArray) : Bool := lexN (labels a).reverse (labels b).reverse

theorem lessN_irr (a : ByteArray) : lessN a a = false := lexN_irr _

theorem lessN_trans (a b c : ByteArray) (h : lessN a b = true) (k : lessN b c = true) : lessN a c = true := lexN_trans _ _ _ h k

def lx {α : Type} [DecidableEq α] (lt : α → α → Bool) (x y : α) (r : Bool) : Bool := if x = y then r else lt x y

def lti (a b : Int) : Bool := decide (a < b)

def lessR (a b : Rec) : Bool := lx lessN a.name b.name (lx lti a.ty b.ty (lx lti a.n b.n (lx lessN a.host b.host (lx bl a.text b.text (lti a.ttl b.ttl)))))

def lt (a b : Rec) : Prop := lessR a b = true

theorem name_or {a b : Rec} (h : lt a b) : a.name = b.name ∨ lessN a.name b.name = true := by
  unfold lt lessR lx at h
  by_cases c : a.name = b.name
  · exact .inl c
  · rw [if_neg c] at h; exact .inr h

theorem between {a b c : Rec} (h : lt a b) (k : lt b c) (e : a.name = c.name) (e' : a.ty = c.ty) : b.name = a.name ∧ b.ty = a.ty := by
  have h1 : a.name = b.name := by
    rcases name_or h with h1 | h1
    · exact h1
    · rcases name_or k with h2 | h2
      · rw [e, h2, lessN_irr] at h1; cases h1
      · have := lessN_trans _ _ _ h1 h2
        rw [e, lessN_irr] at this; cases this
  refine ⟨h1.symm, ?_⟩
  unfold lt lessR lx at h k
  rw [if_pos h1] at h
  rw [if_pos (h1.symm.trans e)] at k
  by_cases c1 : a.ty = b.ty
  · exact c1.symm
  · rw [if_neg c1] at h
    by_cases c2 : b.ty = c.ty
    · exact c2.trans e'.symm
    · rw [if_neg c2] at k
      simp only [lti, decide_eq_true_eq] at h k; omega

def MCache.sm (c : MCache) : Prop := c.l.length ≤ 1048576 ∧ ∀ e, e ∈ c.l → e.sm

def qEq (a b : Quest) : Bool := decide (a.name = b.name) && decide (a.ty = b.ty)

theorem qEq_true (a b : Quest) : (decide (a.name = b.name) && (decide (a.ty = b.ty) && true)) = qEq a b := by unfold qEq; rw [Bool.and_true]

theorem qEq_iff {a b : Quest} : qEq a b = true ↔ a = b := by
  unfold qEq
  obtain ⟨a1, a2⟩ := a; obtain ⟨b1, b2⟩ := b
  simp

theorem s_l15At_l0_eq {q : Quest} : ∀ (l : List MEntry) (i : Nat), s_l15At_l0 q l i = some (match l.findIdx? (fun e => qEq e.q q) with | some k => ((i + k : Nat) : Int) | none => -1)
  | [], i => rfl
  | e :: l, i => by
    rw [s_l15At_l0, qEq_true, s_l15At_l0_eq l (i + 1), List.findIdx?_cons]
    cases qEq e.q q with
    | true => rfl
    | false =>
      simp only [cond_false, Bool.false_eq_true, if_false]
      cases l.findIdx? (fun e => qEq e.q q) with
      | none => rfl
      | some k => simp only [Option.map_some]; congr 2; omega

def atQ (l : List MEntry) (q : Quest) : Int := match l.findIdx? (fun e => qEq e.q q) with | some k => (k : Int) | none => -1

theorem s_l15At_eq {c : MCache} {q : Quest} : s_l15At c q = some (atQ c.l q) := by
  unfold s_l15At atQ
  rw [s_l15At_l0_eq]
  cases c.l.findIdx? (fun e => qEq e.q q) with
  | none => rfl
  | some k => simp

def keysP : List MEntry → List MEntry → Bool
  | _, [] => true
  | pre, e :: t => (entryP e && !pre.any fun x => qEq x.q e.q) && keysP (pre ++ [e]) t

def cacheP (c : MCache) : Bool := keysP [] c.l && (inP c.cap 1 60 && decide ((c.l.length : Int) ≤ c.cap))

theorem slices_IndexFunc_Entry_l0_eq {g : MEntry → Option Bool} {p : MEntry → Bool} : ∀ (l : List MEntry) (i : Nat), (∀ r, r ∈ l → g r = some (p r)) → slices_IndexFunc_Entry_l0 g l i = some (match l.findIdx? p with | some k => ((i + k : Nat) : Int) | none => -1)
  | [], i, _ => rfl
  | e :: l, i, h => by
    rw [slices_IndexFunc_Entry_l0, h e (.head _), bnd1_mk, slices_IndexFunc_Entry_l0_eq l (i + 1) (fun r hr => h r (.tail _ hr)), List.findIdx?_cons]
    cases p e with
    | true => rfl
    | false =>
      simp only [cond_false, Bool.false_eq_true, if_false]
      cases l.findIdx? p with
      | none => rfl
      | some k => simp only [Option.map_some]; congr 2; omega

def atP (p : MEntry → Bool) (l : List MEntry) : Int := match l.findIdx? p with | some k => (k : Int) | none => -1

theorem slices_IndexFunc_Entry_eq {g : MEntry → Option Bool} {p : MEntry → Bool} {l : List MEntry} (h : ∀ r, r ∈ l → g r = some (p r)) : slices_IndexFunc_Entry l g = some (atP p l) := by
  unfold slices_IndexFunc_Entry atP
  rw [slices_IndexFunc_Entry_l0_eq l 0 h]
  cases l.findIdx? p with
  | none => rfl
  | some k => simp

theorem atP_any (p : MEntry → Bool) (l : List MEntry) : decide (0 ≤ atP p l) = l.any p := by
  unfold atP
  cases h : l.findIdx? p with
  | none =>
    rw [List.findIdx?_eq_none_iff] at h
    have : l.any p = false := by rw [List.any_eq_false]; intro x hx; rw [h x hx]; simp
    rw [this]; rfl
  | some k =>
    obtain ⟨h1, h2, -⟩ := List.findIdx?_eq_some_iff_getElem.1 h
    rw [List.any_eq_true.2 ⟨_, List.getElem_mem h1, h2⟩]
    simp

theorem slices_ContainsFunc_Entry_eq {g : MEntry → Option Bool} {p : MEntry → Bool} {l : List MEntry} (h : ∀ r, r ∈ l → g r = some (p r)) : slices_ContainsFunc_Entry l g = some (l.any p) := by
  unfold slices_ContainsFunc_Entry; rw [slices_IndexFunc_Entry_eq h, bnd1_mk, atP_any]

theorem i_CacheOk_l1_eq {c : MCache} : ∀ (l pre : List MEntry), (∀ e, e ∈ l → e.sm) → c.l = pre ++ l → i_CacheOk_l1 c l pre.length = some (keysP pre l)
  | [], pre, _, _ => rfl
  | e :: l, pre, hs, hl => by
    have ih := i_CacheOk_l1_eq l (pre ++ [e]) (fun x hx => hs x (.tail _ hx)) (by rw [hl]; simp)
    rw [show (pre ++ [e]).length = pre.length + 1 by simp] at ih
    have e1 : (c.l.drop ((0 : Nat) : Int).toNat).take ((pre.length : Int).toNat - ((0 : Nat) : Int).toNat) = pre := by rw [hl]; simp
    rw [i_CacheOk_l1, i_EntryOk_eq (hs e (.head _)), bnd1_mk, e1, slices_ContainsFunc_Entry_eq (p := fun x => qEq x.q e.q) (fun r _ => by unfold i_CacheOk_1; rw [qEq_true]), bnd1_mk, grd_pos (by rw [hl]; simp; omega)]
    unfold i_CacheOk_j2 keysP
    rw [ih]
    cases entryP e <;> cases pre.any (fun x => qEq x.q e.q) <;> rfl

theorem i_CacheOk_eq {c : MCache} (h : c.sm) : i_CacheOk c = some (cacheP c) := by
  unfold i_CacheOk cacheP inP i_CacheOk_j0
  have := i_CacheOk_l1_eq c.l [] h.2 rfl
  rw [show ([] : List MEntry).length = 0 from rfl] at this
  rw [this]
  by_cases c1 : c.cap < 1
  · have c2 : ¬ (1 ≤ c.cap) := by omega
    simp [c1, c2]
  · have c2 : 1 ≤ c.cap := by omega
    by_cases c3 : 60 < c.cap
    · have c4 : ¬ (c.cap ≤ 60) := by omega
      simp [c1, c3, c4]
    · have c4 : c.cap ≤ 60 := by omega
      by_cases c5 : c.cap < (c.l.length : Int)
      · have c6 : ¬ ((c.l.length : Int) ≤ c.cap) := by omega
        simp [c1, c3, c5, c6]
      · have c6 : (c.l.length : Int) ≤ c.cap := by omega
        simp [c1, c2, c3, c4, c5, c6]

def zent : MEntry := ⟨⟨⟨#[]⟩, 0⟩, 0, [], 0, 0⟩

theorem s_l15Entry_eq {e : MEntry} (h : e.sm) : s_l15Entry e = some e := by
  have hc : s_l7Copy e.l = some e.l := by unfold s_l7Copy; rw [List.nil_append, grd_pos (Nat.le_trans h.2.1 (by decide))]
  unfold s_l15Entry; rw [hc]; rfl

theorem i_copyEntry_eq {e : MEntry} (h : e.sm) : i_copyEntry e = some e := by
  unfold i_copyEntry; rw [slices_Clone_Record_eq (Nat.le_trans h.2.1 (by decide))]; rfl

theorem s_l15Copy_l0_eq {c : MCache} : ∀ (l out : List MEntry) (i : Nat), (∀ e, e ∈ l → e.sm) → out.length + l.length ≤ 1099511627776 → s_l15Copy_l0 c l out i = some (MCache.mk c.cap (out ++ l))
  | [], out, i, _, _ => by rw [s_l15Copy_l0, List.append_nil]
  | e :: l, out, i, h, hl => by
    simp only [List.length_cons] at hl
    rw [s_l15Copy_l0, s_l15Entry_eq (h e (.head _)), bnd1_mk, grd_pos (by simp; omega), s_l15Copy_l0_eq l (out ++ [e]) (i + 1) (fun x hx => h x (.tail _ hx)) (by simp; omega)]
    simp

theorem s_l15Copy_eq {c : MCache} (h : c.sm) : s_l15Copy c = some c := by
  unfold s_l15Copy; rw [s_l15Copy_l0_eq _ _ _ h.2 (by have := h.1; simp; omega)]; rfl

theorem i_copyCache_l0_eq {c : MCache} : ∀ (l out : List MEntry) (i : Nat), (∀ e, e ∈ l → e.sm) → out.length + l.length ≤ 1099511627776 → i_copyCache_l0 c l out i = some (MCache.mk c.cap (out ++ l))
  | [], out, i, _, _ => by rw [i_copyCache_l0, List.append_nil]
  | e :: l, out, i, h, hl => by
    simp only [List.length_cons] at hl
    rw [i_copyCache_l0, i_copyEntry_eq (h e (.head _)), bnd1_mk, grd_pos (by simp; omega), i_copyCache_l0_eq l (out ++ [e]) (i + 1) (fun x hx => h x (.tail _ hx)) (by simp; omega)]
    simp

theorem i_copyCache_eq {c : MCache} (h : c.sm) : i_copyCache c = some c := by
  unfold i_copyCache; rw [i_copyCache_l0_eq _ _ _ h.2 (by have := h.1; simp; omega)]; rfl

theorem s_l15Lives_eq {e : MEntry} {now : Int} : s_l15Lives e now = some (decide (now < e.til)) := rfl

/-- The place of the entry that ends first, among those up to here and those behind. -/
def oldL (l : List MEntry) : List MEntry → Nat → Nat → Nat
  | [], b, _ => b
  | e :: t, b, i => oldL l t (bif decide (e.til < (l.getD b zent).til) then i else b) (i + 1)

theorem oldL_lt {l : List MEntry} : ∀ (t : List MEntry) (b i : Nat), b < l.length → i + t.length ≤ l.length → oldL l t b i < l.length
  | [], b, i, h, _ => h
  | e :: t, b, i, h, hi => by
    simp only [List.length_cons] at hi
    unfold oldL
    refine oldL_lt t _ _ ?_ (by omega)
    cases decide (e.til < (l.getD b zent).til)
    · exact h
    · show i < _; omega

theorem idx_getD {l : List MEntry} {b : Nat} (h : b < l.length) : idx l (b : Int) = some (l.getD b zent) := by
  rw [idx_nat, List.getElem?_eq_getElem h]; simp [List.getD, List.getElem?_eq_getElem h]

theorem s_l15Oldest_l0_eq {c : MCache} : ∀ (t : List MEntry) (b i : Nat), b < c.l.length → i + t.length ≤ c.l.length → s_l15Oldest_l0 c t (b : Int) i = some (oldL c.l t b i : Int)
  | [], b, i, _, _ => rfl
  | e :: t, b, i, h, hi => by
    simp only [List.length_cons] at hi
    rw [s_l15Oldest_l0, idx_getD h, bnd1_mk, oldL]
    cases decide (e.til < (c.l.getD b zent).til)
    · exact s_l15Oldest_l0_eq t b (i + 1) h (by omega)
    · exact s_l15Oldest_l0_eq t i (i + 1) (by omega) (by omega)

def oldest (l : List MEntry) : Nat := oldL l l 0 0

theorem oldest_tail {l : List MEntry} (h : 0 < l.length) : oldest l = oldL l (l.drop 1) 0 1 := by
  cases l with
  | nil => simp at h
  | cons e t => unfold oldest; rw [oldL]; simp

theorem oldest_lt {l : List MEntry} (h : 0 < l.length) : oldest l < l.length := oldL_lt l 0 0 h (by omega)

theorem s_l15Oldest_eq {c : MCache} (h : 0 < c.l.length) : s_l15Oldest c = some (oldest c.l : Int) := by
  unfold s_l15Oldest
  rw [oldest_tail h]
  exact s_l15Oldest_l0_eq (c.l.drop 1) 0 1 h (by simp; omega)

def putP (l : List MEntry) (cap : Int) (e : MEntry) : List MEntry := (bif decide (0 < (l.length : Int)) && decide (cap ≤ (l.length : Int)) then l.eraseIdx (oldest l) else l) ++ [e]

def keepP (c : MCache) (now : Int) (e : MEntry) : MCache := bif !entryP e || !decide (now < e.til) then c else
  match c.l.findIdx? (fun x => qEq x.q e.q) with
  | some k => bif decide ((c.l.getD k zent).rank ≤ e.rank) || !decide (now < (c.l.getD k zent).til) then ⟨c.cap, c.l.set k e⟩ else c
  | none => ⟨c.cap, putP c.l c.cap e⟩

theorem s_Keep_j1_eq {c : MCache} {e : MEntry} {k : Nat} (h : k < c.l.length) (b : Bool) : s_Keep_j1 c e (k : Int) b = some (bif b then ⟨c.cap, c.l.set k e⟩ else c) := by
  unfold s_Keep_j1
  rw [idx_getD h, bnd1_mk]
  cases b <;> rfl

theorem erase_eq {l : List MEntry} {k : Nat} (h : k < l.length) : (([] : List MEntry) ++ ((l.drop (0 + ((0 : Nat) : Int).toNat)).take ((k : Int).toNat - ((0 : Nat) : Int).toNat))) ++ ((l.drop (0 + ((k : Int) + 1).toNat)).take ((l.length : Int).toNat - ((k : Int) + 1).toNat)) = l.eraseIdx k := by
  have e1 : ((k : Int) + 1).toNat = k + 1 := by omega
  have e2 : ((l.length : Int)).toNat = l.length := by omega
  have e3 : ((0 : Nat) : Int).toNat = 0 := rfl
  have e4 : (k : Int).toNat = k := by omega
  rw [e1, e2, e3, e4, List.nil_append, Nat.zero_add, Nat.zero_add, List.drop_zero, Nat.sub_zero, List.eraseIdx_eq_take_drop_succ]
  congr 1
  exact List.take_of_length_le (by simp)

theorem s_Keep_j2_eq {c : MCache} {e : MEntry} {l : List MEntry} (h : l.length ≤ 1048577) : s_Keep_j2 c e l = some ⟨c.cap, l ++ [e]⟩ := by
  unfold s_Keep_j2; rw [grd_pos (by simp; omega)]

theorem s_Keep_j3_eq {c : MCache} {e : MEntry} (h : c.l.length ≤ 1048576) (b : Bool) (hb : b = true → 0 < c.l.length) : s_Keep_j3 c e b = some ⟨c.cap, (bif b then c.l.eraseIdx (oldest c.l) else c.l) ++ [e]⟩ := by
  unfold s_Keep_j3
  cases b with
  | false => rw [cond_false, s_Keep_j2_eq (by omega)]; rfl
  | true =>
    have h0 := hb rfl
    have hk := oldest_lt h0
    have hl := List.length_eraseIdx_le c.l (oldest c.l)
    have hx := erase_eq hk
    rw [cond_true, s_l15Oldest_eq h0, bnd1_mk, grd_pos (by omega), grd_pos (by
      rw [List.nil_append, List.length_take, List.length_drop]; omega), grd_pos (by simp only [i64]; omega), grd_pos (by omega), hx, grd_pos (by omega), s_Keep_j2_eq (by omega)]
    rfl

theorem s_Keep_eq {c : MCache} {now : Int} {e : MEntry} (h : c.sm) (he : e.sm) : s_Keep c now e = some (keepP c now e) := by
  unfold s_Keep keepP
  rw [s_l15Copy_eq h, bnd1_mk, s_EntryOk_eq he, bnd1_mk, s_l15Lives_eq, bnd1_mk]
  have h0 : ∀ b : Bool, s_Keep_j0 c now e c b = some (bif b then c else (match c.l.findIdx? (fun x => qEq x.q e.q) with
      | some k => bif decide ((c.l.getD k zent).rank ≤ e.rank) || !decide (now < (c.l.getD k zent).til) then ⟨c.cap, c.l.set k e⟩ else c
      | none => ⟨c.cap, putP c.l c.cap e⟩)) := fun b => by
    unfold s_Keep_j0
    cases b with
    | true => rfl
    | false =>
      rw [cond_false, cond_false, s_l15Entry_eq he, bnd1_mk, s_l15At_eq, bnd1_mk]
      unfold atQ
      cases hf : c.l.findIdx? (fun x => qEq x.q e.q) with
      | some k =>
        obtain ⟨hk, -, -⟩ := List.findIdx?_eq_some_iff_getElem.1 hf
        have c1 : (0 : Int) ≤ (k : Int) := by omega
        simp only [c1, decide_true, cond_true, idx_getD hk, bnd1_mk, s_l15Lives_eq, s_Keep_j1_eq hk]
        cases decide ((c.l.getD k zent).rank ≤ e.rank) <;> rfl
      | none =>
        have c1 : ¬ ((0 : Int) ≤ -1) := by decide
        simp only [c1, decide_false, cond_false]
        unfold putP
        cases hd : decide (0 < (c.l.length : Int)) with
        | false => rw [cond_false, s_Keep_j3_eq h.1 false (by simp)]; rfl
        | true =>
          have hp : 0 < c.l.length := by have := of_decide_eq_true hd; omega
          rw [cond_true, s_Keep_j3_eq h.1 _ (fun _ => hp)]; rfl
  cases entryP e with
  | false => exact h0 true
  | true => rw [Bool.not_true, cond_false, h0]; rfl

theorem mem_putP {l : List MEntry} {k : Int} {e x : MEntry} (h : x ∈ putP l k e) : x ∈ l ∨ x = e := by
  unfold putP at h
  rcases List.mem_append.1 h with h | h
  · left
    revert h
    cases (decide (0 < (l.length : Int)) && decide (k ≤ (l.length : Int)))
    · exact id
    · exact fun h => List.mem_of_mem_eraseIdx h
  · exact .inr (List.mem_singleton.1 h)

theorem len_putP {l : List MEntry} {k : Int} {e : MEntry} : (putP l k e).length ≤ l.length + 1 := by
  unfold putP
  rw [List.length_append, List.length_singleton]
  have := List.length_eraseIdx_le l (oldest l)
  cases (decide (0 < (l.length : Int)) && decide (k ≤ (l.length : Int))) <;> simp only [cond_true, cond_false] <;> omega

theorem mem_keepP {c : MCache} {now : Int} {e x : MEntry} (h : x ∈ (keepP c now e).l) : x ∈ c.l ∨ x = e := by
  unfold keepP at h
  cases hb : (!entryP e || !decide (now < e.til)) with
  | true => rw [hb] at h; exact .inl h
  | false =>
    rw [hb, cond_false] at h
    cases hf : c.l.findIdx? (fun x => qEq x.q e.q) with
    | some k =>
      rw [hf] at h
      simp only at h
      cases hd : (decide ((c.l.getD k zent).rank ≤ e.rank) || !decide (now < (c.l.getD k zent).til)) with
      | true => rw [hd] at h; exact List.mem_or_eq_of_mem_set h
      | false => rw [hd] at h; exact .inl h
    | none => rw [hf] at h; exact mem_putP h

theorem len_keepP (c : MCache) (now : Int) (e : MEntry) : (keepP c now e).l.length ≤ c.l.length + 1 := by
  unfold keepP
  cases (!entryP e || !decide (now < e.til)) with
  | true => exact Nat.le_succ _
  | false =>
    rw [cond_false]
    cases c.l.findIdx? (fun x => qEq x.q e.q) with
    | some k =>
      simp only
      cases (decide ((c.l.getD k zent).rank ≤ e.rank) || !decide (now < (c.l.getD k zent).til)) with
      | true => simp only [cond_true, List.length_set]; omega
      | false => exact Nat.le_succ _
    | none => exact len_putP

theorem cap_keepP (c : MCache) (now : Int) (e : MEntry) : (keepP c now e).cap = c.cap := by
  unfold keepP
  cases (!entryP e || !decide (now < e.til)) with
  | true => rfl
  | false =>
    rw [cond_false]
    cases c.l.findIdx? (fun x => qEq x.q e.q) with
    | some k => simp only; cases (decide ((c.l.getD k zent).rank ≤ e.rank) || !decide (now < (c.l.getD k zent).til)) <;> rfl
    | none => rfl

/-- How long an entry may last from now on. -/
def left (til now : Int) : Int := if til - now ≤ 100000 then til - now else 100000

def lookE (now : Int) (q : Quest) (rank : Int) (e : MEntry) : Bool := qEq e.q q && (decide (rank ≤ e.rank) && decide (now < e.til))

def lookP (c : MCache) (now : Int) (q : Quest) (rank : Int) : MEntry × Bool := match c.l.find? (lookE now q rank) with
  | some e => (⟨e.q, e.kind, e.l.map (setTtl (left e.til now)), e.rank, e.til⟩, true)
  | none => (zent, false)

theorem wrap_over {x : Int} (h : 9223372036854775808 ≤ x ∧ x < 18446744073709551616) : IntKind.i64.wrap x = x - 18446744073709551616 := by
  simp [IntKind.wrap, IntKind.signed, IntKind.bits]; omega

theorem drop_cons_get {l : List MEntry} {i : Nat} (h : i < l.length) : l.drop i = l.getD i zent :: l.drop (i + 1) := by
  rw [List.drop_eq_getElem_cons h]; simp [List.getD, List.getElem?_eq_getElem h]

theorem i_Look_j4_eq {now : Int} {e : MEntry} (hn : i64 now) (he : i64 e.til) (hs : e.sm) (hl : now < e.til) :
    (bif decide (IntKind.i64.wrap (e.til - now) < 0) then (i_Look_j4 now e true) else (i_Look_j4 now e (decide (100000 < IntKind.i64.wrap (e.til - now))))) = some (⟨e.q, e.kind, e.l.map (setTtl (left e.til now)), e.rank, e.til⟩, true) := by
  have hw : ∀ k, i_Look_j3 e k = some (⟨e.q, e.kind, e.l.map (setTtl k), e.rank, e.til⟩, true) := fun k => by
    unfold i_Look_j3; rw [i_WithTtl_eq (Nat.le_trans hs.2.1 (by decide))]; rfl
  obtain ⟨n1, n2⟩ := hn
  obtain ⟨t1, t2⟩ := he
  unfold i_Look_j4 left
  rw [hw, hw]
  by_cases c : e.til - now < 9223372036854775808
  · rw [wrap_id (by omega)]
    have c1 : ¬ (e.til - now < 0) := by omega
    rw [decide_eq_false c1, cond_false]
    by_cases c2 : e.til - now ≤ 100000
    · have c3 : ¬ (100000 < e.til - now) := by omega
      rw [decide_eq_false c3, cond_false, if_pos c2]
    · have c3 : 100000 < e.til - now := by omega
      rw [decide_eq_true c3, cond_true, if_neg c2]
  · rw [wrap_over (by omega)]
    have c1 : e.til - now - 18446744073709551616 < 0 := by omega
    have c2 : ¬ (e.til - now ≤ 100000) := by omega
    rw [decide_eq_true c1, cond_true, cond_true, if_neg c2]

theorem i_Look_l1_eq {c : MCache} {now : Int} {q : Quest} {rank : Int} (hn : i64 now) (hc : c.sm) (ht : ∀ e, e ∈ c.l → i64 e.til) : ∀ (k fl i : Nat), c.l.length - i = k → i ≤ c.l.length → k < fl →
    i_Look_l1 c now q rank fl (i : Int) = some (match (c.l.drop i).find? (lookE now q rank) with | some e => (⟨e.q, e.kind, e.l.map (setTtl (left e.til now)), e.rank, e.til⟩, true) | none => (zent, false))
  | k, 0, i, _, _, h => by omega
  | k, fl + 1, i, hk, hi, hfl => by
    rw [i_Look_l1]
    by_cases c1 : i = c.l.length
    · have c2 : ¬ ((i : Int) < (c.l.length : Int)) := by omega
      rw [decide_eq_false c2, cond_false, List.drop_eq_nil_of_le (by omega)]
      rfl
    · have hlt : i < c.l.length := by omega
      have c2 : ((i : Int) < (c.l.length : Int)) := by omega
      have hm : c.l.getD i zent ∈ c.l := by simp [List.getD, List.getElem?_eq_getElem hlt]
      have hsz := hc.1
      rw [decide_eq_true c2, cond_true, idx_getD hlt, bnd1_mk, drop_cons_get hlt, List.find?_cons]
      generalize hx : c.l.getD i zent = x at hm ⊢
      have ih := i_Look_l1_eq (q := q) (rank := rank) hn hc ht (k - 1) fl (i + 1) (by omega) (by omega) (by omega)
      rw [qEq_true]
      unfold i_Look_j2
      have ew : IntKind.i64.wrap ((i : Int) + 1) = ((i + 1 : Nat) : Int) := by rw [wrap_id (by omega)]; omega
      rw [ew, ih]
      unfold lookE
      cases hq : qEq x.q q with
      | false => rfl
      | true =>
        simp only [Bool.not_true, cond_false, Bool.true_and]
        by_cases c3 : x.rank < rank
        · have c4 : ¬ (rank ≤ x.rank) := by omega
          simp only [c3, c4, decide_true, decide_false, cond_true, Bool.false_and]
        · have c4 : rank ≤ x.rank := by omega
          simp only [c3, c4, decide_true, decide_false, cond_false, Bool.true_and]
          by_cases c5 : x.til ≤ now
          · have c6 : ¬ (now < x.til) := by omega
            simp only [c5, c6, decide_true, decide_false, cond_true]
          · have c6 : now < x.til := by omega
            have hj := i_Look_j4_eq hn (ht x hm) (hc.2 x hm) c6
            simp only [c5, c6, decide_true, decide_false, cond_false]
            exact hj

theorem i_Look_eq {c : MCache} {now : Int} {q : Quest} {rank : Int} (hn : i64 now) (hc : c.sm) (ht : ∀ e, e ∈ c.l → i64 e.til) : i_Look c now q rank = some (lookP c now q rank) := by
  unfold i_Look lookP
  have := i_Look_l1_eq (q := q) (rank := rank) hn hc ht c.l.length fuel0 0 (by omega) (by omega) (fuel_lt hc.1)
  rw [List.drop_zero] at this
  exact this

/-- What a drawn entry is. -/
def MEntry.dok (e : MEntry) : Prop := e.sm ∧ -1 ≤ e.til ∧ e.til ≤ 100 ∧ e.l.length ≤ 2

def dokL (l : List MEntry) (n : Nat) : Prop := l.length ≤ n ∧ ∀ e, e ∈ l → e.dok

theorem dokL_sm {c : MCache} {n : Nat} (h : dokL c.l n) (hn : n ≤ 1048576) : c.sm := ⟨Nat.le_trans h.1 hn, fun e he => (h.2 e he).1⟩

theorem dokL_til {c : MCache} {n : Nat} (h : dokL c.l n) : ∀ e, e ∈ c.l → i64 e.til := fun e he => by
  have := (h.2 e he).2
  simp only [i64]; omega

theorem s_l15Draw_p {c : Cur} (h : c.inv) : ∃ e d, s_l15Draw c = some (e, d) ∧ d.inv ∧ e.dok ∧ e.l.length ≤ 1 := by
  obtain ⟨r, d1, e1, h1, hr⟩ := s_l5Draw_p h
  obtain ⟨k, d2, e2, h2, k0, k1⟩ := s_l1Below_p (n := 3) h1 (by omega) (by omega)
  obtain ⟨t, d3, e3, h3, t0, t1⟩ := s_l1Below_p (n := 40) h2 (by omega) (by omega)
  obtain ⟨m, d4, e4, h4, m0, m1⟩ := s_l1Below_p (n := 4) h3 (by omega) (by omega)
  unfold s_l15Draw
  rw [e1, bnd2_mk, e2, bnd2_mk, grd_pos (by simp only [i64]; omega), e3, bnd2_mk, e4, bnd2_mk]
  have sm0 : smL ([] : List Rec) := ⟨Nat.zero_le _, fun r hr => by cases hr⟩
  have sm1 : smL [r] := ⟨by simp, fun q hq => by rw [List.mem_singleton] at hq; rw [hq]; exact hr⟩
  cases decide (m = 0) with
  | true => exact ⟨_, _, rfl, h4, ⟨⟨hr.1, sm0⟩, by show -1 ≤ t; omega, by show t ≤ 100; omega, by show ([] : List Rec).length ≤ 2; simp⟩, by simp⟩
  | false =>
    rw [cond_false]
    cases decide (m = 1) with
    | true => exact ⟨_, _, rfl, h4, ⟨⟨hr.1, sm0⟩, by show -1 ≤ t; omega, by show t ≤ 100; omega, by show ([] : List Rec).length ≤ 2; simp⟩, by simp⟩
    | false => exact ⟨_, _, rfl, h4, ⟨⟨hr.1, sm1⟩, by show -1 ≤ t; omega, by show t ≤ 100; omega, by show [r].length ≤ 2; simp⟩, by simp⟩

theorem dok_keep {c : MCache} {now : Int} {e : MEntry} {n : Nat} (h : dokL c.l n) (he : e.dok) : dokL (keepP c now e).l (n + 1) := by
  refine ⟨by have := len_keepP c now e; have := h.1; omega, fun x hx => ?_⟩
  rcases mem_keepP hx with h1 | rfl
  · exact h.2 x h1
  · exact he

theorem s_l15Cache_l0_p : ∀ (k fl : Nat) (c : Cur) (m : MCache) (n : Nat), c.inv → k < fl → dokL m.l n → n + k ≤ 1000 → ∃ x d, s_l15Cache_l0 fl c.b c.i c.h m.cap m.l (k : Int) = some (x, d) ∧ d.inv ∧ dokL x.l (n + k)
  | 0, fl, c, m, n, h, hf, hm, hn => by
    obtain ⟨fl, rfl⟩ : ∃ q, fl = q + 1 := ⟨fl - 1, by omega⟩
    rw [s_l15Cache_l0]
    exact ⟨m, c, rfl, h, hm⟩
  | k + 1, fl, c, m, n, h, hf, hm, hn => by
    obtain ⟨fl, rfl⟩ : ∃ q, fl = q + 1 := ⟨fl - 1, by omega⟩
    have c1 : (0 : Int) < ((k + 1 : Nat) : Int) := by omega
    have e9 : ((k + 1 : Nat) : Int) - 1 = (k : Int) := by omega
    obtain ⟨t, d1, e1, h1, -, -⟩ := s_l1Below_p (n := 9) h (by omega) (by omega)
    obtain ⟨x, d2, e2, h2, hx, -⟩ := s_l15Draw_p h1
    rw [s_l15Cache_l0, decide_eq_true c1, cond_true, e1, bnd2_mk, e2, bnd2_mk, s_Keep_eq (dokL_sm hm (by omega)) hx.1, bnd1_mk, grd_pos (by simp only [i64]; omega), e9]
    obtain ⟨y, d3, g1, g2, g3⟩ := s_l15Cache_l0_p k fl d2 (keepP m t x) (n + 1) h2 (by omega) (dok_keep hm hx) (by omega)
    exact ⟨y, d3, g1, g2, by rw [show n + (k + 1) = n + 1 + k by omega]; exact g3⟩

theorem s_l15Cache_p {c : Cur} (h : c.inv) : ∃ x d, s_l15Cache c = some (x, d) ∧ d.inv ∧ dokL x.l 10 := by
  obtain ⟨a, d1, e1, h1, a0, a1⟩ := s_l1Below_p (n := 6) h (by omega) (by omega)
  obtain ⟨b, d2, e2, h2, b0, b1⟩ := s_l1Below_p (n := 8) h1 (by omega) (by omega)
  unfold s_l15Cache
  rw [e1, bnd2_mk, grd_pos (by simp only [i64]; omega), s_CacheNew_eq, bnd1_mk, e2, bnd2_mk]
  obtain ⟨k, rfl⟩ : ∃ k : Nat, b = (k : Int) := ⟨b.toNat, by omega⟩
  obtain ⟨x, d3, g1, g2, g3⟩ := s_l15Cache_l0_p k fuel0 d2 ⟨cap (1 + a), []⟩ 0 h2 (fuel_lt (by omega)) ⟨Nat.le_refl _, fun e he => by cases he⟩ (by omega)
  exact ⟨x, d3, g1, g2, by have := g3.1; omega, g3.2⟩

theorem s_l15Any_p {c : Cur} (h : c.inv) : ∃ e d, s_l15Any c = some (e, d) ∧ d.inv ∧ e.dok := by
  obtain ⟨x, d1, e1, h1, hx, hl⟩ := s_l15Draw_p h
  obtain ⟨k, d2, e2, h2, k0, k1⟩ := s_l1Below_p (n := 10) h1 (by omega) (by omega)
  obtain ⟨a, d3, e3, h3, a0, a1⟩ := s_l1Below_p (n := 5) h2 (by omega) (by omega)
  obtain ⟨b, d4, e4, h4, -⟩ := s_l1Int_p (l := [0, 4, 3]) h2 (by decide) (by decide)
  obtain ⟨t, d5, e5, h5, -⟩ := s_l1Int_p (l := [0, 1, 3]) h2 (by decide) (by decide)
  obtain ⟨r, d6, e6, h6, hr⟩ := s_l5Draw_p h2
  unfold s_l15Any
  rw [e1, bnd2_mk, e2, bnd2_mk]
  cases decide (k = 0) with
  | true => rw [cond_true, e3, bnd2_mk, grd_pos (by simp only [i64]; omega)]; exact ⟨_, _, rfl, h3, hx⟩
  | false =>
    rw [cond_false]
    cases decide (k = 1) with
    | true => rw [cond_true, e4, bnd2_mk]; exact ⟨_, _, rfl, h4, hx⟩
    | false =>
      rw [cond_false]
      cases decide (k = 2) with
      | true => exact ⟨_, _, rfl, h2, ⟨hx.1, by show (-1 : Int) ≤ -1; omega, by show (-1 : Int) ≤ 100; omega, hx.2.2.2⟩⟩
      | false =>
        rw [cond_false]
        cases decide (k = 3) with
        | true => rw [cond_true, e5, bnd2_mk]; exact ⟨_, _, rfl, h5, hx⟩
        | false =>
          rw [cond_false]
          cases decide (k = 4) with
          | true =>
            rw [cond_true, e6, bnd2_mk, grd_pos (by simp; omega)]
            refine ⟨_, _, rfl, h6, ⟨⟨hx.1.1, ⟨by show (x.l ++ [r]).length ≤ _; simp; omega, fun q hq => ?_⟩⟩, hx.2.1, hx.2.2.1, by show (x.l ++ [r]).length ≤ 2; simp; omega⟩⟩
            rcases List.mem_append.1 hq with hq | hq
            · exact hx.1.2.2 q hq
            · rw [List.mem_singleton] at hq; rw [hq]; exact hr
          | false => exact ⟨_, _, rfl, h2, hx⟩

theorem s_l15Bent_p {c : Cur} (h : c.inv) : ∃ x d, s_l15Bent c = some (x, d) ∧ d.inv ∧ dokL x.l 20 := by
  obtain ⟨x, d1, e1, h1, hx⟩ := s_l15Cache_p h
  obtain ⟨k, d2, e2, h2, k0, k1⟩ := s_l1Below_p (n := 8) h1 (by omega) (by omega)
  obtain ⟨b, d3, e3, h3, -⟩ := s_l1Int_p (l := [0, 1, 60, 61, (-1)]) h2 (by decide) (by decide)
  obtain ⟨y, d4, e4, h4, hy⟩ := s_l15Any_p h2
  have hl := hx.1
  unfold s_l15Bent
  rw [e1, bnd2_mk, e2, bnd2_mk]
  cases decide (k = 0) with
  | true => rw [cond_true, e3, bnd2_mk]; exact ⟨_, _, rfl, h3, by show x.l.length ≤ 20; omega, hx.2⟩
  | false =>
    rw [cond_false]
    cases decide (k = 1) with
    | true =>
      rw [cond_true, e4, bnd2_mk, grd_pos (by simp; omega)]
      refine ⟨_, _, rfl, h4, by show (x.l ++ [y]).length ≤ 20; simp; omega, fun q hq => ?_⟩
      rcases List.mem_append.1 hq with hq | hq
      · exact hx.2 q hq
      · rw [List.mem_singleton] at hq; rw [hq]; exact hy
    | false =>
      rw [cond_false]
      cases decide (k = 2) with
      | true =>
        rw [cond_true, grd_pos (by simp; omega)]
        refine ⟨_, _, rfl, h2, by show (x.l ++ x.l).length ≤ 20; simp; omega, fun q hq => ?_⟩
        rcases List.mem_append.1 hq with hq | hq <;> exact hx.2 q hq
      | false => exact ⟨_, _, rfl, h2, by omega, hx.2⟩

theorem w_sameEntry_self {e : MEntry} : w_sameEntry e e = some true := by
  unfold w_sameEntry; simp [w_sameRecs_self]

theorem w_sameCache_l1_self {c : MCache} : ∀ (t pre : List MEntry), c.l = pre ++ t → w_sameCache_l1 c t pre.length = some true
  | [], pre, _ => rfl
  | e :: t, pre, h => by
    have := w_sameCache_l1_self t (pre ++ [e]) (by rw [h]; simp)
    rw [show (pre ++ [e]).length = pre.length + 1 by simp] at this
    rw [w_sameCache_l1, idx_nat, h, get_app, bnd1_mk, w_sameEntry_self, bnd1_mk, ← this]
    rfl

theorem w_sameCache_self {c : MCache} : w_sameCache c c = some true := by
  unfold w_sameCache w_sameCache_j0
  have := w_sameCache_l1_self (c := c) c.l [] rfl
  simp only [decide_true, Bool.not_true, cond_false]
  exact this

theorem w_big_eq {p : List Int} : w_big p = some (decide (1048576 < (p.length : Int))) := rfl

theorem findIdx?_split {α : Type} {p : α → Bool} : ∀ (l : List α) (k : Nat), l.findIdx? p = some k → ∃ A e R, l = A ++ e :: R ∧ A.length = k ∧ p e = true ∧ ∀ x, x ∈ A → p x = false
  | [], k, h => by simp at h
  | x :: l, k, h => by
    rw [List.findIdx?_cons] at h
    cases hx : p x with
    | true =>
      rw [hx] at h; simp at h
      exact ⟨[], x, l, rfl, h, hx, fun y hy => by cases hy⟩
    | false =>
      rw [hx] at h; simp at h
      obtain ⟨j, hj, rfl⟩ := h
      obtain ⟨A, e, R, h1, h2, h3, h4⟩ := findIdx?_split l j hj
      exact ⟨x :: A, e, R, by rw [h1]; rfl, by simp [h2], h3, fun y hy => by
        cases hy with
        | head => exact hx
        | tail _ hy => exact h4 y hy⟩

theorem slices_Delete_Entry_eq {l : List MEntry} {k : Nat} (h : k < l.length) : slices_Delete_Entry l (k : Int) ((k : Int) + 1) = some (l.eraseIdx k, l.eraseIdx k) := by
  have e1 : (k : Int).toNat - ((0 : Nat) : Int).toNat = k := by simp
  have e2 : (l.drop (0 + ((k : Int) + 1).toNat)).take ((l.length : Int).toNat - ((k : Int) + 1).toNat) = l.drop (k + 1) := by
    rw [show ((k : Int) + 1).toNat = k + 1 by omega, Nat.zero_add]; exact List.take_of_length_le (by simp)
  have e3 : (l.drop (k + 1)).length = l.length - (k + 1) := List.length_drop
  have e4 : (l.take k ++ l.drop (k + 1) ++ l.drop (k + (l.drop (k + 1)).length)).take (0 + ((k + (l.drop (k + 1)).length : Nat) : Int).toNat) = l.eraseIdx k := by
    rw [Nat.zero_add, Int.toNat_natCast, List.eraseIdx_eq_take_drop_succ]
    exact List.take_left' (by rw [List.length_append, List.length_take]; omega)
  have n1 : ¬ ((k : Int) = (k : Int) + 1) := by omega
  unfold slices_Delete_Entry
  rw [e1, e2, e4, grd_pos (by omega), decide_eq_false n1, cond_false, grd_pos (by omega), grd_pos (by omega), grd_pos (by omega), grd_pos (by
    simp only [List.length_append, List.length_take, List.length_drop]; omega)]

theorem i_dropFirst_Entry_l1_eq {l : List MEntry} : ∀ (t : List MEntry) (b i : Nat), b < l.length → i + t.length ≤ l.length → i_dropFirst_Entry_l1 l (fun a0 => i_Keep_2 a0) t (b : Int) i = i_dropFirst_Entry_j0 l (oldL l t b i : Int)
  | [], b, i, _, _ => rfl
  | e :: t, b, i, h, hi => by
    simp only [List.length_cons] at hi
    have e1 : ∀ x : MEntry, i_Keep_2 x = some x.til := fun _ => rfl
    rw [i_dropFirst_Entry_l1, e1, bnd1_mk, idx_getD h, bnd1_mk, e1, bnd1_mk, oldL]
    cases decide (e.til < (l.getD b zent).til)
    · exact i_dropFirst_Entry_l1_eq t b (i + 1) h (by omega)
    · exact i_dropFirst_Entry_l1_eq t i (i + 1) (by omega) (by omega)

theorem i_dropFirst_Entry_eq {l : List MEntry} (hl : l.length ≤ 1048576) : i_dropFirst_Entry l (fun a0 => i_Keep_2 a0) = some ((bif decide (0 < (l.length : Int)) then l.eraseIdx (oldest l) else l), (bif decide (0 < (l.length : Int)) then l.eraseIdx (oldest l) else l)) := by
  unfold i_dropFirst_Entry
  by_cases h0 : 0 < l.length
  · have hk := oldest_lt h0
    have n1 : ¬ ((l.length : Int) = 0) := by omega
    have n2 : 0 < (l.length : Int) := by omega
    have := i_dropFirst_Entry_l1_eq l 0 0 h0 (by omega)
    rw [show ((0 : Nat) : Int) = 0 from rfl] at this
    rw [this]
    show i_dropFirst_Entry_j0 l (oldest l : Int) = _
    unfold i_dropFirst_Entry_j0
    rw [decide_eq_false n1, cond_false, grd_pos (by simp only [i64]; omega), slices_Delete_Entry_eq hk, bnd2_mk, decide_eq_true n2, cond_true]
  · cases l with
    | nil => rfl
    | cons a l => simp at h0

theorem i_Keep_j1_eq {c : MCache} {e : MEntry} {k : Nat} (h : k < c.l.length) (b : Bool) : i_Keep_j1 c e (k : Int) b = some (bif b then ⟨c.cap, c.l.set k e⟩ else c) := by
  unfold i_Keep_j1
  rw [idx_getD h, bnd1_mk]
  cases b <;> rfl

theorem i_Keep_j2_eq {c : MCache} {e : MEntry} {l : List MEntry} (h : l.length ≤ 1048577) : i_Keep_j2 c e l = some ⟨c.cap, l ++ [e]⟩ := by
  unfold i_Keep_j2; rw [grd_pos (by simp; omega)]

theorem i_Keep_eq {c : MCache} {now : Int} {e : MEntry} (h : c.sm) (he : e.sm) : i_Keep c now e = some (keepP c now e) := by
  unfold i_Keep keepP
  rw [show i_copyCache (MCache.mk c.cap c.l) = some c from i_copyCache_eq h, bnd1_mk, show i_EntryOk (MEntry.mk (Quest.mk e.q.name e.q.ty) e.kind e.l e.rank e.til) = some (entryP e) from i_EntryOk_eq he, bnd1_mk]
  have hd : ∀ t : Int, decide (t ≤ now) = !decide (now < t) := fun t => by rw [← decide_not]; congr 1; simp
  have h0 : ∀ b : Bool, i_Keep_j0 now e c b = some (bif b then c else (match c.l.findIdx? (fun x => qEq x.q e.q) with
      | some k => bif decide ((c.l.getD k zent).rank ≤ e.rank) || !decide (now < (c.l.getD k zent).til) then ⟨c.cap, c.l.set k e⟩ else c
      | none => ⟨c.cap, putP c.l c.cap e⟩)) := fun b => by
    unfold i_Keep_j0
    cases b with
    | true => rfl
    | false =>
      rw [cond_false, cond_false, show i_copyEntry (MEntry.mk (Quest.mk e.q.name e.q.ty) e.kind e.l e.rank e.til) = some e from i_copyEntry_eq he, bnd1_mk,
        slices_IndexFunc_Entry_eq (g := fun a0 => i_Keep_1 a0 (MEntry.mk (Quest.mk e.q.name e.q.ty) e.kind e.l e.rank e.til)) (p := fun x => qEq x.q e.q) (fun r _ => by unfold i_Keep_1; rw [qEq_true]), bnd1_mk]
      unfold atP
      cases hf : c.l.findIdx? (fun x => qEq x.q e.q) with
      | some k =>
        obtain ⟨hk, -, -⟩ := List.findIdx?_eq_some_iff_getElem.1 hf
        have c1 : (0 : Int) ≤ (k : Int) := by omega
        simp only [c1, decide_true, cond_true, idx_getD hk, bnd1_mk, i_Keep_j1_eq hk, hd]
        cases decide ((c.l.getD k zent).rank ≤ e.rank) <;> rfl
      | none =>
        have c1 : ¬ ((0 : Int) ≤ -1) := by decide
        simp only [c1, decide_false, cond_false]
        unfold putP
        have hl := h.1
        cases hc : decide (c.cap ≤ (c.l.length : Int)) with
        | false => rw [cond_false, i_Keep_j2_eq (by omega), Bool.and_false]; rfl
        | true =>
          have hl2 := List.length_eraseIdx_le c.l (oldest c.l)
          rw [cond_true, i_dropFirst_Entry_eq h.1, bnd2_mk, Bool.and_true, i_Keep_j2_eq (by
            cases decide (0 < (c.l.length : Int)) <;> simp only [cond_true, cond_false] <;> omega)]
  cases entryP e with
  | false => exact h0 true
  | true => rw [Bool.not_true, cond_false, h0, hd]; rfl

theorem keysP_iff : ∀ (l pre : List MEntry), keysP pre l = true ↔ (∀ x, x ∈ l → entryP x = true) ∧ (l.map (·.q)).Nodup ∧ ∀ x, x ∈ l → ∀ p, p ∈ pre → p.q ≠ x.q
  | [], pre => by simp [keysP]
  | e :: t, pre => by
    unfold keysP
    rw [Bool.and_eq_true, Bool.and_eq_true, keysP_iff t (pre ++ [e]), List.map_cons, List.nodup_cons, Bool.not_eq_true', List.any_eq_false]
    constructor
    · rintro ⟨⟨h1, h2⟩, h3, h4, h5⟩
      refine ⟨fun x hx => ?_, ⟨fun hm => ?_, h4⟩, fun x hx p hp => ?_⟩
      · cases hx with
        | head => exact h1
        | tail _ hx => exact h3 x hx
      · obtain ⟨x, hx, hq⟩ := List.mem_map.1 hm
        exact h5 x hx e (by simp) hq.symm
      · cases hx with
        | head => exact fun hq => h2 p hp (qEq_iff.2 hq)
        | tail _ hx => exact h5 x hx p (by simp [hp])
    · rintro ⟨h1, ⟨h2, h3⟩, h4⟩
      refine ⟨⟨h1 e (.head _), fun p hp hq => h4 e (.head _) p hp (qEq_iff.1 hq)⟩, fun x hx => h1 x (.tail _ hx), h3, fun x hx p hp => ?_⟩
      rcases List.mem_append.1 hp with hp | hp
      · exact h4 x (.tail _ hx) p hp
      · rw [List.mem_singleton] at hp; subst hp
        exact fun hq => h2 (List.mem_map.2 ⟨x, hx, hq.symm⟩)

theorem cacheP_iff {c : MCache} : cacheP c = true ↔ ((∀ x, x ∈ c.l → entryP x = true) ∧ (c.l.map (·.q)).Nodup) ∧ inP c.cap 1 60 = true ∧ (c.l.length : Int) ≤ c.cap := by
  unfold cacheP
  rw [Bool.and_eq_true, Bool.and_eq_true, keysP_iff, decide_eq_true_eq]
  constructor
  · rintro ⟨⟨a, b, -⟩, d⟩; exact ⟨⟨a, b⟩, d⟩
  · rintro ⟨⟨a, b⟩, d⟩; exact ⟨⟨a, b, fun x _ p hp => by cases hp⟩, d⟩

theorem qEq_false {a b : Quest} : qEq a b = false ↔ a ≠ b := by
  rw [← Bool.not_eq_true, qEq_iff]

theorem find_none {l : List MEntry} {now : Int} {q : Quest} {k : Int} (h : ∀ x, x ∈ l → x.q ≠ q) : l.find? (lookE now q k) = none := by
  rw [List.find?_eq_none]
  intro x hx
  unfold lookE
  rw [qEq_false.2 (h x hx)]; simp

theorem find_mid {A B : List MEntry} {y : MEntry} {now : Int} {q : Quest} {k : Int} (hA : ∀ x, x ∈ A → x.q ≠ q) (hB : ∀ x, x ∈ B → x.q ≠ q) : (A ++ y :: B).find? (lookE now q k) = bif lookE now q k y then some y else none := by
  rw [List.find?_append, find_none hA, Option.none_or, List.find?_cons, find_none hB]
  cases lookE now q k y <;> rfl

theorem lookP_mid {c : MCache} {A B : List MEntry} {y : MEntry} {now : Int} {q : Quest} {k : Int} (hc : c.l = A ++ y :: B) (hA : ∀ x, x ∈ A → x.q ≠ q) (hB : ∀ x, x ∈ B → x.q ≠ q) : lookP c now q k = bif lookE now q k y then (⟨y.q, y.kind, y.l.map (setTtl (left y.til now)), y.rank, y.til⟩, true) else (zent, false) := by
  unfold lookP
  rw [hc, find_mid hA hB]
  cases lookE now q k y <;> rfl

theorem lookP_none {c : MCache} {now : Int} {q : Quest} {k : Int} (hA : ∀ x, x ∈ c.l → x.q ≠ q) : lookP c now q k = (zent, false) := by
  unfold lookP
  rw [find_none hA]

theorem lookE_self {now : Int} {k : Int} {e : MEntry} : lookE now e.q k e = (decide (k ≤ e.rank) && decide (now < e.til)) := by
  unfold lookE; rw [qEq_iff.2 rfl, Bool.true_and]

theorem bnd2_pair {α β γ : Type} {p : α × β} {f : α → β → Option γ} : bnd2 (some p) f = f p.1 p.2 := rfl

theorem within_self {a b : List Rec} (h : a.map zt = b.map zt) : within a b = true := by
  unfold within
  rw [List.all_eq_true]
  intro x hx
  have : zt x ∈ b.map zt := by rw [← h]; exact List.mem_map.2 ⟨x, hx, rfl⟩
  obtain ⟨y, hy, e⟩ := List.mem_map.1 this
  exact List.any_eq_true.2 ⟨y, hy, by rw [e]; simp⟩

theorem zt_setTtl {a : Int} {l : List Rec} : (l.map (setTtl a)).map zt = l.map zt := by
  rw [List.map_map]; exact List.map_congr_left fun _ _ => rfl

/-- What Keep does with an entry that is to be kept, in a cache in order. -/
theorem keep_cases {c : MCache} {now : Int} {e : MEntry} (hc : cacheP c = true) (h1 : entryP e = true) (h2 : now < e.til) (hs : c.sm) :
    (∃ A B y, c.l = A ++ y :: B ∧ y.q = e.q ∧ (∀ x, x ∈ A → x.q ≠ e.q) ∧ (∀ x, x ∈ B → x.q ≠ e.q) ∧
      ((y.rank ≤ e.rank ∨ y.til ≤ now) ∧ keepP c now e = ⟨c.cap, A ++ e :: B⟩ ∨ (e.rank < y.rank ∧ now < y.til) ∧ keepP c now e = c)) ∨
    (∃ A, (∀ x, x ∈ c.l → x.q ≠ e.q) ∧ (∀ x, x ∈ A → x ∈ c.l) ∧ keepP c now e = ⟨c.cap, A ++ [e]⟩ ∧ (A.map (·.q)).Nodup ∧ (A.length : Int) + 1 ≤ c.cap) := by
  obtain ⟨⟨k1, k2⟩, k3, k4⟩ := cacheP_iff.1 hc
  have hcap : 1 ≤ c.cap := by unfold inP at k3; simp only [Bool.and_eq_true, decide_eq_true_eq] at k3; exact k3.1
  unfold keepP
  rw [h1, decide_eq_true h2]
  simp only [Bool.not_true, Bool.or_self, cond_false]
  cases hf : c.l.findIdx? (fun x => qEq x.q e.q) with
  | some k =>
    left
    obtain ⟨A, y, B, hl, hA, hy, hne⟩ := findIdx?_split c.l k hf
    have hyq := qEq_iff.1 hy
    have hg : c.l.getD k zent = y := by rw [hl, ← hA]; simp [List.getD]
    have hset : c.l.set k e = A ++ e :: B := by rw [hl, ← hA]; simp
    refine ⟨A, B, y, hl, hyq, fun x hx => qEq_false.1 (hne x hx), fun x hx hq => ?_, ?_⟩
    · rw [hl, List.map_append, List.map_cons, List.nodup_append] at k2
      exact (List.nodup_cons.1 k2.2.1).1 (List.mem_map.2 ⟨x, hx, by rw [hyq]; exact hq⟩)
    · simp only [hg, hset]
      by_cases c1 : y.rank ≤ e.rank
      · left; exact ⟨.inl c1, by rw [decide_eq_true c1]; rfl⟩
      · by_cases c2 : now < y.til
        · right; exact ⟨⟨by omega, c2⟩, by rw [decide_eq_false c1, decide_eq_true c2]; rfl⟩
        · left; exact ⟨.inr (by omega), by rw [decide_eq_false c1, decide_eq_false c2]; rfl⟩
  | none =>
    right
    have hall : ∀ x, x ∈ c.l → x.q ≠ e.q := fun x hx => by
      rw [List.findIdx?_eq_none_iff] at hf
      exact qEq_false.1 (hf x hx)
    refine ⟨_, hall, fun x hx => ?_, rfl, ?_, ?_⟩
    · revert hx
      cases (decide (0 < (c.l.length : Int)) && decide (c.cap ≤ (c.l.length : Int)))
      · exact id
      · exact fun h => List.mem_of_mem_eraseIdx h
    · cases (decide (0 < (c.l.length : Int)) && decide (c.cap ≤ (c.l.length : Int)))
      · exact k2
      · exact k2.sublist ((List.eraseIdx_sublist _ _).map _)
    · by_cases c1 : c.cap ≤ (c.l.length : Int)
      · have c0 : 0 < c.l.length := by omega
        have c2 : 0 < (c.l.length : Int) := by omega
        have := List.length_eraseIdx_of_lt (oldest_lt c0)
        rw [decide_eq_true c1, decide_eq_true c2]
        show ((c.l.eraseIdx (oldest c.l)).length : Int) + 1 ≤ c.cap
        omega
      · rw [decide_eq_false c1, Bool.and_false]
        show (c.l.length : Int) + 1 ≤ c.cap
        omega

theorem cacheP_keep {c : MCache} {now : Int} {e : MEntry} (hc : cacheP c = true) (h1 : entryP e = true) (h2 : now < e.til) (hs : c.sm) : cacheP (keepP c now e) = true := by
  have hk := keep_cases hc h1 h2 hs
  obtain ⟨⟨k1, k2⟩, k3, k4⟩ := cacheP_iff.1 hc
  rcases hk with ⟨A, B, y, hl, hyq, hA, hB, ⟨-, hk⟩ | ⟨-, hk⟩⟩ | ⟨A, hall, hsub, hk, hn, hlen⟩
  · rw [hk]
    refine cacheP_iff.2 ⟨⟨fun x hx => ?_, ?_⟩, k3, ?_⟩
    · rcases List.mem_append.1 hx with hx | hx
      · exact k1 x (by rw [hl]; simp [hx])
      · cases hx with
        | head => exact h1
        | tail _ hx => exact k1 x (by rw [hl]; exact List.mem_append.2 (.inr (.tail _ hx)))
    · rw [hl, List.map_append, List.map_cons, hyq] at k2
      rw [List.map_append, List.map_cons]; exact k2
    · rw [hl] at k4; simpa using k4
  · rw [hk]; exact hc
  · rw [hk]
    refine cacheP_iff.2 ⟨⟨fun x hx => ?_, ?_⟩, k3, ?_⟩
    · rcases List.mem_append.1 hx with hx | hx
      · exact k1 x (hsub x hx)
      · rw [List.mem_singleton] at hx; rw [hx]; exact h1
    · rw [List.map_append, List.nodup_append]
      refine ⟨hn, by simp, fun a ha b hb => ?_⟩
      obtain ⟨x, hx, rfl⟩ := List.mem_map.1 ha
      have : b = e.q := by simpa using hb
      rw [this]
      exact hall x (hsub x hx)
    · simpa using hlen

theorem s_DrawKeep_p {b : List Int} (hb : b.length ≤ 1048576) : ∃ c now e, s_DrawKeep b = some (c, now, e) ∧ dokL c.l 20 ∧ e.dok ∧ 0 ≤ now ∧ now < 30 := by
  obtain ⟨c, e, hc⟩ := s_l1New_p hb
  obtain ⟨x, d1, e1, h1, hx⟩ := s_l15Bent_p hc
  obtain ⟨y, d2, e2, h2, hy⟩ := s_l15Any_p h1
  have hl := hx.1
  have h0 : ∀ (d : Cur) (s : ByteArray) (k m : Int) (l : List Rec), d.inv → s.size ≤ 1048576 → smL l → l.length ≤ 2 → ∃ c now e, s_DrawKeep_j0 x y d.b d.i d.h s k m l = some (c, now, e) ∧ dokL c.l 20 ∧ e.dok ∧ 0 ≤ now ∧ now < 30 := fun d s k m l hd hs hm h2 => by
    obtain ⟨n, d3, e3, h3, n0, n1⟩ := s_l1Below_p (n := 30) hd (by omega) (by omega)
    unfold s_DrawKeep_j0
    rw [e3, bnd2_mk]
    exact ⟨_, _, _, rfl, hx, ⟨⟨hs, hm⟩, hy.2.1, hy.2.2.1, h2⟩, n0, n1⟩
  have h1' : ∀ (d : Cur) (o : Bool), d.inv → (o = true → 0 < x.l.length) → ∃ c now e, s_DrawKeep_j1 x y d.b d.i d.h o = some (c, now, e) ∧ dokL c.l 20 ∧ e.dok ∧ 0 ≤ now ∧ now < 30 := fun d o hd ho => by
    unfold s_DrawKeep_j1
    cases o with
    | false => exact h0 d _ _ _ _ hd hy.1.1 hy.1.2 hy.2.2.2
    | true =>
      have := ho rfl
      obtain ⟨n, d3, e3, h3, n0, n1⟩ := s_l1Below_p (n := (x.l.length : Int)) hd (by omega) (by omega)
      obtain ⟨z, e4, hz⟩ := idx_ok n0 n1
      rw [cond_true, e3, bnd2_mk, e4, bnd1_mk]
      exact h0 d3 _ _ _ _ h3 (hx.2 z hz).1.1 ⟨Nat.zero_le _, fun r hr => by cases hr⟩ (by simp)
  unfold s_DrawKeep
  rw [e, bnd1_mk, e1, bnd2_mk, e2, bnd2_mk]
  cases hd : decide (0 < (x.l.length : Int)) with
  | false => exact h1' d2 false h2 (by simp)
  | true =>
    obtain ⟨o, d3, e3, h3⟩ := s_l1Once_p (n := 2) h2 (by omega) (by omega)
    rw [cond_true, e3, bnd2_mk]
    exact h1' d3 _ h3 (fun _ => by have := of_decide_eq_true hd; omega)

theorem law_FnKeeps {p : List Int} {h : Prop} (_ : h) : w_FnKeeps p = some true := by
  unfold w_FnKeeps
  rw [w_big_eq, bnd1_mk]
  by_cases c0 : 1048576 < (p.length : Int)
  · rw [decide_eq_true c0]; rfl
  have hb : p.length ≤ 1048576 := by omega
  obtain ⟨c, now, e, e1, hc, he, n0, n1⟩ := s_DrawKeep_p hb
  have hs : c.sm := dokL_sm hc (by omega)
  have hx := dok_keep (now := now) hc he
  have hxs : (keepP c now e).sm := dokL_sm hx (by omega)
  have hn : i64 now := by simp only [i64]; omega
  have ht : i64 e.til := by have := he.2; simp only [i64]; omega
  rw [decide_eq_false c0, cond_false, e1, bnd3_mk, i_Keep_eq hs he.1, bnd1_mk, s_Keep_eq hs he.1, bnd1_mk, w_sameCache_self, bnd1_mk, Bool.not_true, cond_false, i_EntryOk_eq he.1, bnd1_mk, s_EntryOk_eq he.1, bnd1_mk, beq_self_eq_true, Bool.not_true]
  unfold w_FnKeeps_j0
  rw [cond_false, i_EntryOk_eq he.1, bnd1_mk]
  have same : ∀ k, keepP c now e = c → w_FnKeeps_j1 c now e (keepP c now e) k = w_FnKeeps_j1 c now e c k := fun k hk => by rw [hk]
  cases h1 : entryP e with
  | false =>
    have hk : keepP c now e = c := by unfold keepP; rw [h1]; rfl
    rw [Bool.not_false, cond_true, same _ hk]
    unfold w_FnKeeps_j1
    rw [cond_true, w_sameCache_self]; rfl
  | true =>
    rw [Bool.not_true, cond_false]
    by_cases c2 : e.til ≤ now
    · have hk : keepP c now e = c := by
        have : ¬ (now < e.til) := by omega
        unfold keepP; rw [h1, decide_eq_false this]; rfl
      rw [decide_eq_true c2, same _ hk]
      unfold w_FnKeeps_j1
      rw [cond_true, w_sameCache_self]; rfl
    have h2 : now < e.til := by omega
    rw [decide_eq_false c2]
    unfold w_FnKeeps_j1
    rw [cond_false, i_CacheOk_eq hs, bnd1_mk]
    cases hk : cacheP c with
    | false => rfl
    | true =>
      obtain ⟨r0, r1⟩ : 1 ≤ e.rank ∧ e.rank ≤ 3 := by
        unfold entryP inP at h1; simp only [Bool.and_eq_true, decide_eq_true_eq] at h1; exact h1.1
      have hlen := len_keepP c now e
      have hcp := cacheP_keep hk h1 h2 hs
      have hcl := (cacheP_iff.1 hcp).2.2
      rw [cap_keepP] at hcl
      have g1 : i64 (e.rank + 1) := by simp only [i64]; omega
      have n2 : ¬ ((c.l.length : Int) + 1 < ((keepP c now e).l.length : Int)) := by omega
      have n3 : ¬ (c.cap < ((keepP c now e).l.length : Int)) := by omega
      have hl20 := hc.1
      have hsd : ∀ a : Int, i_SameData (e.l.map (setTtl a)) e.l = some true := fun a => by
        have hl2 := he.2.2.2
        rw [i_SameData_eq (by rw [List.length_map]; omega) (by omega), within_self zt_setTtl, within_self zt_setTtl.symm]; rfl
      rw [Bool.not_true, cond_false, i_Look_eq hn hxs (dokL_til hx), bnd2_pair, i_Look_eq ht hxs (dokL_til hx), bnd2_pair, i_CacheOk_eq hxs, bnd1_mk, hcp, Bool.not_true, cond_false, grd_pos (by simp only [i64]; omega), decide_eq_false n2, cond_false, decide_eq_false n3]
      unfold w_FnKeeps_j2
      rw [cond_false, grd_pos g1, i_Look_eq hn hs (dokL_til hc), bnd2_pair, grd_pos g1, i_Look_eq hn hxs (dokL_til hx), bnd2_pair]
      have d1 : decide (e.rank ≤ e.rank) = true := by simp
      have d2 : decide (now < e.til) = true := decide_eq_true h2
      have d3 : decide (e.til < e.til) = false := by simp
      rcases keep_cases hk h1 h2 hs with ⟨A, B, y, hl, hyq, hA, hB, ⟨hw, hkp⟩ | ⟨⟨w1, w2⟩, hkp⟩⟩ | ⟨A, hall, hsub, hkp, -, -⟩
      · have a1 : lookP c now e.q (e.rank + 1) = (zent, false) := by
          rw [lookP_mid hl hA hB]
          unfold lookE
          rcases hw with hw | hw
          · have : ¬ (e.rank + 1 ≤ y.rank) := by omega
            rw [decide_eq_false this]; simp
          · have : ¬ (now < y.til) := by omega
            rw [decide_eq_false this]; simp
        have a2 : ∀ t k, lookP (keepP c now e) t e.q k = bif decide (k ≤ e.rank) && decide (t < e.til) then (⟨e.q, e.kind, e.l.map (setTtl (left e.til t)), e.rank, e.til⟩, true) else (zent, false) := fun t k => by
          rw [hkp, lookP_mid (c := ⟨c.cap, A ++ e :: B⟩) rfl hA hB, lookE_self]
        simp only [a1, a2, d1, d2, d3, Bool.and_self, Bool.and_false, cond_true, cond_false, decide_true, hsd, bnd1_mk, Bool.not_false]
      · have a1 : lookP c now e.q (e.rank + 1) = (⟨y.q, y.kind, y.l.map (setTtl (left y.til now)), y.rank, y.til⟩, true) := by
          have : e.rank + 1 ≤ y.rank := by omega
          rw [lookP_mid hl hA hB]
          unfold lookE
          rw [qEq_iff.2 hyq, decide_eq_true this, decide_eq_true w2]; rfl
        rw [hkp, a1]
        simp only [cond_true, w_sameEntry_self, bnd1_mk]
      · have a1 : lookP c now e.q (e.rank + 1) = (zent, false) := lookP_none hall
        have a2 : ∀ t k, lookP (keepP c now e) t e.q k = bif decide (k ≤ e.rank) && decide (t < e.til) then (⟨e.q, e.kind, e.l.map (setTtl (left e.til t)), e.rank, e.til⟩, true) else (zent, false) := fun t k => by
          rw [hkp, lookP_mid (c := ⟨c.cap, A ++ [e]⟩) (A := A) (B := []) rfl (fun x hx => hall x (hsub x hx)) (fun x hx => by cases hx), lookE_self]
        simp only [a1, a2, d1, d2, d3, Bool.and_self, Bool.and_false, cond_true, cond_false, decide_true, hsd, bnd1_mk, Bool.not_false]
end Go.Abs.M
