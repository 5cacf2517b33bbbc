/- The pure law of FnDataSame: its pure function answers true. -/
import Derived.Test.YtbkmnbpgpklojaaDoorFnsFnDataSame
set_option linter.unusedSimpArgs false
set_option linter.unusedVariables false
namespace Go.Abs.M
open Go Go.Abs
theorem idx_nat {α : Type} {l : List α} {n : Nat} : idx l (n : Int) = l[n]? := by simp [idx]

def zrec : Rec := ⟨⟨#[]⟩, 0, 0, 0, ⟨#[]⟩, ⟨#[]⟩⟩

def first (p : Rec → Bool) (l : List Rec) : Rec := (l.find? p).getD zrec

def Rec.sm (r : Rec) : Prop := r.name.size ≤ 1048576 ∧ r.host.size ≤ 1048576 ∧ r.text.size ≤ 1048576

def smL (l : List Rec) : Prop := l.length ≤ 1048576 ∧ ∀ r, r ∈ l → r.sm

def mkB (l : List UInt8) : ByteArray := ⟨l.toArray⟩

def bts (s : ByteArray) : List UInt8 := s.data.toList

theorem bts_mkB (l : List UInt8) : bts (mkB l) = l := rfl

theorem mkB_bts (s : ByteArray) : mkB (bts s) = s := rfl

theorem bts_len (s : ByteArray) : (bts s).length = s.size := rfl

theorem bts_inj {a b : ByteArray} : bts a = bts b ↔ a = b := ⟨fun h => by rw [← mkB_bts a, ← mkB_bts b, h], fun h => by rw [h]⟩

theorem bts_nil_iff (s : ByteArray) : s = ⟨#[]⟩ ↔ bts s = [] := ⟨fun h => by subst h; rfl, fun h => bts_inj.1 (by rw [h]; rfl)⟩

theorem bts_extract (s : ByteArray) (a b : Nat) : bts (s.extract a b) = ((bts s).drop a).take (b - a) := by
  unfold bts
  rw [ByteArray.data_extract, Array.toList_extract, List.extract_eq_take_drop]

theorem extract_mkB (s : ByteArray) (a b : Nat) : s.extract a b = mkB (((bts s).drop a).take (b - a)) := by
  rw [← mkB_bts (s.extract a b), bts_extract]

theorem sidx_nat {s : ByteArray} {n : Nat} {b : UInt8} (h : (bts s)[n]? = some b) : sidx s (n : Int) = some (b.toNat : Int) := by
  obtain ⟨h1, h2⟩ := List.getElem?_eq_some_iff.1 h
  have h3 : n < s.size := h1
  unfold sidx
  rw [dif_pos ⟨by omega, by simpa using h3⟩]
  subst h2
  rfl

/-- The parts of bytes between the dots. -/
def segs : List UInt8 → List UInt8 → List (List UInt8)
  | cur, [] => [cur]
  | cur, b :: l => if b = 46 then cur :: segs [] l else segs (cur ++ [b]) l

def labels (s : ByteArray) : List ByteArray := if bts s = [] then [] else (segs [] (bts s)).map mkB

theorem segs_len : ∀ (l cur : List UInt8), (segs cur l).length ≤ l.length + 1
  | [], cur => by simp [segs]
  | b :: l, cur => by
    unfold segs
    split
    · have := segs_len l []; simp; omega
    · have := segs_len l (cur ++ [b]); simp; omega

theorem labels_len (s : ByteArray) : (labels s).length ≤ s.size + 1 := by
  unfold labels
  split
  · simp
  · have := segs_len (bts s) []
    rw [bts_len] at this
    simpa using this

theorem u8_eq46 (b : UInt8) : ((b.toNat : Int) = 46) ↔ b = 46 := by
  constructor
  · intro h
    have : b.toNat = 46 := by omega
    exact UInt8.toNat_inj.1 this
  · intro h; subst h; rfl

/-- The loop of the reference's Labels: from the place i on, the part having begun at the place f. -/
theorem s_Labels_l0_eq (s : ByteArray) (hs : s.size ≤ 1048576) (hne : s ≠ ⟨#[]⟩) : ∀ (k : Nat) (i f fl : Nat) (out : List ByteArray), s.size - i = k → f ≤ i → i ≤ s.size → out.length ≤ f → k + 1 < fl →
    s_Labels_l0 s fl out (f : Int) (i : Int) = some (out ++ (segs (((bts s).drop f).take (i - f)) ((bts s).drop i)).map mkB)
  | 0, i, f, fl, out, hk, hfi, hi, ho, hfl => by
    obtain ⟨fl, rfl⟩ : ∃ q, fl = q + 1 := ⟨fl - 1, by omega⟩
    obtain ⟨fl, rfl⟩ : ∃ q, fl = q + 1 := ⟨fl - 1, by omega⟩
    have hie : i = s.size := by omega
    rw [s_Labels_l0]
    have e1 : (bts s).drop i = [] := List.drop_eq_nil_of_le (by rw [bts_len]; omega)
    rw [e1]
    simp only [segs, List.map_cons, List.map_nil]
    have c1 : decide ((i : Int) ≤ (s.size : Int)) = true := by simpa using hi
    have c2 : (!decide (s = (⟨#[]⟩ : ByteArray))) = true := by simpa using hne
    rw [c1, c2, cond_true, s_Labels_j1, cond_true]
    have c3 : decide ((i : Int) = (s.size : Int)) = true := by simp [hie]
    rw [c3, cond_true, s_Labels_j2, cond_true, grd_pos (by omega), grd_pos (by simp; omega), grd_pos (by simp only [i64]; omega), grd_pos (by simp only [i64]; omega), s_Labels_l0]
    have c4 : decide ((i : Int) + 1 ≤ (s.size : Int)) = false := by simp; omega
    rw [c4, cond_false, s_Labels_j1, cond_false, extract_mkB]
    simp
  | k + 1, i, f, fl, out, hk, hfi, hi, ho, hfl => by
    obtain ⟨fl, rfl⟩ : ∃ q, fl = q + 1 := ⟨fl - 1, by omega⟩
    have hlt : i < (bts s).length := by rw [bts_len]; omega
    rw [s_Labels_l0]
    have c1 : decide ((i : Int) ≤ (s.size : Int)) = true := by simpa using hi
    have c2 : (!decide (s = (⟨#[]⟩ : ByteArray))) = true := by simpa using hne
    rw [c1, c2, cond_true, s_Labels_j1, cond_true]
    have c3 : decide ((i : Int) = (s.size : Int)) = false := by simp; omega
    have hb : (bts s)[i]? = some (bts s)[i] := List.getElem?_eq_getElem hlt
    rw [c3, cond_false, sidx_nat hb, bnd1_mk, List.drop_eq_getElem_cons hlt, segs]
    have e2 : ((i : Int) + 1) = ((i + 1 : Nat) : Int) := by omega
    by_cases c : (bts s)[i] = 46
    · rw [if_pos c]
      have c5 : decide ((((bts s)[i]).toNat : Int) = 46) = true := by simpa using (u8_eq46 _).2 c
      rw [c5, s_Labels_j2, cond_true, grd_pos (by omega), grd_pos (by simp; omega), grd_pos (by simp only [i64]; omega), grd_pos (by simp only [i64]; omega), e2,
        s_Labels_l0_eq s hs hne k (i + 1) (i + 1) fl _ (by omega) (by omega) (by omega) (by simp; omega) (by omega), extract_mkB]
      simp
    · rw [if_neg c]
      have c5 : decide ((((bts s)[i]).toNat : Int) = 46) = false := by
        have := fun h => c ((u8_eq46 _).1 h)
        simpa using this
      rw [c5, s_Labels_j2, cond_false, grd_pos (by simp only [i64]; omega), e2, s_Labels_l0_eq s hs hne k (i + 1) f fl _ (by omega) (by omega) (by omega) ho (by omega)]
      have e3 : ((bts s).drop f).take (i + 1 - f) = ((bts s).drop f).take (i - f) ++ [(bts s)[i]] := by
        rw [show i + 1 - f = (i - f) + 1 by omega, List.take_add_one]
        congr 1
        rw [List.getElem?_drop, show f + (i - f) = i by omega, hb]
        rfl
      rw [e3]

theorem s_Labels_eq {s : ByteArray} (hs : s.size ≤ 1048576) : s_Labels s = some (labels s) := by
  unfold s_Labels
  by_cases hne : s = ⟨#[]⟩
  · subst hne
    have : fuel0 = 4611686018427387903 + 1 := rfl
    rw [this, s_Labels_l0]
    rfl
  · have h := s_Labels_l0_eq s hs hne s.size 0 0 fuel0 [] (by omega) (by omega) (by omega) (by simp) (by unfold fuel0; omega)
    have e : bts s ≠ [] := fun h => hne ((bts_nil_iff s).2 h)
    simpa [labels, e] using h

theorem indexByte_none : ∀ {l : List UInt8}, Lib.indexByte l 46 = -1 → ∀ cur, segs cur l = [cur ++ l]
  | [], _, cur => by simp [segs]
  | b :: l, h, cur => by
    unfold Lib.indexByte at h
    by_cases c : b = 46
    · subst c; simp at h
    · have hb : (b == (46 : UInt8)) = false := by simpa using c
      rw [hb] at h
      simp only [Bool.false_eq_true, if_false] at h
      by_cases c' : Lib.indexByte l 46 = -1
      · rw [segs, if_neg c, indexByte_none c']; simp
      · have h1 := Lib.indexByte_ge l 46
        rw [if_neg (by simpa using c')] at h
        omega

theorem indexByte_some : ∀ {l : List UInt8} {k : Nat}, Lib.indexByte l 46 = (k : Int) → k < l.length ∧ ∀ cur, segs cur l = (cur ++ l.take k) :: segs [] (l.drop (k + 1))
  | [], k, h => by simp [Lib.indexByte] at h
  | b :: l, k, h => by
    unfold Lib.indexByte at h
    by_cases c : b = 46
    · subst c
      simp at h
      have : k = 0 := by omega
      subst this
      exact ⟨by simp, fun cur => by simp [segs]⟩
    · have hb : (b == (46 : UInt8)) = false := by simpa using c
      rw [hb] at h
      simp only [Bool.false_eq_true, if_false] at h
      have h1 := Lib.indexByte_ge l 46
      by_cases c' : Lib.indexByte l 46 = -1
      · rw [if_pos (by simpa using c')] at h; omega
      · rw [if_neg (by simpa using c')] at h
        obtain ⟨q, rfl⟩ : ∃ q, k = q + 1 := ⟨k - 1, by omega⟩
        obtain ⟨h2, h3⟩ := indexByte_some (l := l) (k := q) (by omega)
        exact ⟨by simp; omega, fun cur => by rw [segs, if_neg c, h3]; simp⟩

theorem count_segs : ∀ (l cur : List UInt8), (segs cur l).length = Lib.countByte l 46 + 1
  | [], cur => by simp [segs, Lib.countByte]
  | b :: l, cur => by
    unfold segs
    by_cases c : b = 46
    · subst c; rw [if_pos rfl, List.length_cons, count_segs l []]; simp [Lib.countByte]
    · rw [if_neg c, count_segs l]; simp [Lib.countByte, c]

theorem dotB : (⟨#[46]⟩ : ByteArray).size = 1 := rfl

theorem dot_sidx : sidx (⟨#[46]⟩ : ByteArray) 0 = some 46 := rfl

theorem strings_Index_dot {s : ByteArray} : strings_Index s ⟨#[46]⟩ = some (if s = ⟨#[46]⟩ then 0 else Lib.indexByte (bts s) 46) := by
  unfold strings_Index internal_stringslite_Index
  rw [dotB]
  by_cases c : s = ⟨#[46]⟩
  · subst c; simp [internal_stringslite_Index_j0]
  · have c' : ¬ ((⟨#[46]⟩ : ByteArray) = s) := fun h => c h.symm
    simp [internal_stringslite_Index_j0, c, c', dotB, dot_sidx, internal_stringslite_IndexByte]
    rfl

theorem strings_Index_dot' {s : ByteArray} : strings_Index s ⟨#[46]⟩ = some (Lib.indexByte (bts s) 46) := by
  rw [strings_Index_dot]
  by_cases c : s = ⟨#[46]⟩
  · subst c; rfl
  · rw [if_neg c]

theorem segs_pos (cur l : List UInt8) : 1 ≤ (segs cur l).length := by rw [count_segs]; omega

theorem idx_cases (l : List UInt8) : Lib.indexByte l 46 = -1 ∨ ∃ k : Nat, Lib.indexByte l 46 = (k : Int) := by
  have h := Lib.indexByte_ge l 46
  rcases Int.lt_or_le (Lib.indexByte l 46) 0 with h1 | h1
  · exact .inl (by omega)
  · exact .inr ⟨(Lib.indexByte l 46).toNat, by omega⟩

theorem genSplit_j1_eq {r : ByteArray} {a : List ByteArray} {i : Nat} (hi : i < a.length) (ha : a.length ≤ 1099511627776) : strings_genSplit_j1 r a (i : Int) = some (a.take i ++ [r]) := by
  unfold strings_genSplit_j1
  rw [idx_nat, List.getElem?_eq_getElem hi, bnd1_mk, grd_pos (by simp only [i64]; omega), grd_pos (by omega)]
  congr 1
  have e : ((i : Int) + 1).toNat - ((0 : Nat) : Int).toNat = i + 1 := by omega
  have e2 : (0 + ((0 : Nat) : Int).toNat) = 0 := by omega
  rw [e, e2, List.drop_zero, Int.toNat_natCast, List.take_add_one, List.take_set_of_le (Nat.le_refl i), List.getElem?_set_self hi]
  rfl

theorem genSplit_l2_eq (p0 : ByteArray) (j : Int) (n : Nat) (hj : (if (p0.size : Int) + 1 < j then (p0.size : Int) + 1 else j) - 1 = (n : Int)) : ∀ (k i fl : Nat) (r : ByteArray) (a : List ByteArray), n - i = k → i ≤ n → k < fl → a.length = n + 1 → a.length ≤ 1099511627776 → (segs [] (bts r)).length = n + 1 - i → r.size ≤ 1048576 →
    strings_genSplit_l2 p0 ⟨#[46]⟩ 0 j fl r a (i : Int) = some (a.take i ++ (segs [] (bts r)).map mkB)
  | 0, i, fl, r, a, hk, hi, hf, ha, ha', hs, hr => by
    obtain ⟨fl, rfl⟩ : ∃ q, fl = q + 1 := ⟨fl - 1, by omega⟩
    have hin : i = n := by omega
    rw [strings_genSplit_l2, hj]
    have c : decide ((i : Int) < (n : Int)) = false := by simp; omega
    rw [c, cond_false, genSplit_j1_eq (by omega) ha']
    rcases idx_cases (bts r) with h | ⟨q, h⟩
    · rw [indexByte_none h]; rfl
    · have h1 := (indexByte_some h).2 []
      have h2 := segs_pos [] ((bts r).drop (q + 1))
      rw [h1] at hs
      simp only [List.length_cons] at hs
      omega
  | k + 1, i, fl, r, a, hk, hi, hf, ha, ha', hs, hr => by
    obtain ⟨fl, rfl⟩ : ∃ q, fl = q + 1 := ⟨fl - 1, by omega⟩
    rw [strings_genSplit_l2, hj]
    have c : decide ((i : Int) < (n : Int)) = true := by simp; omega
    rw [c, cond_true, strings_Index_dot', bnd1_mk]
    rcases idx_cases (bts r) with h | ⟨q, h⟩
    · rw [indexByte_none h] at hs
      simp at hs
      omega
    · obtain ⟨h1, h2⟩ := indexByte_some h
      have h2 := h2 []
      rw [bts_len] at h1
      have hi' : i < a.length := by omega
      rw [h, dotB]
      have c' : decide ((q : Int) < 0) = false := by simp
      have e1 : ((i : Int) + 1) = ((i + 1 : Nat) : Int) := by omega
      rw [c', cond_false, grd_pos (by simp only [i64]; omega), grd_pos (by omega), idx_nat, List.getElem?_eq_getElem hi', bnd1_mk, grd_pos (by simp only [i64]; omega), grd_pos (by omega), grd_pos (by simp only [i64]; omega), e1]
      have e2 : bts (r.extract ((q : Int) + ((1 : Nat) : Int)).toNat (r.size : Int).toNat) = (bts r).drop (q + 1) := by
        rw [bts_extract]
        have e3 : ((q : Int) + ((1 : Nat) : Int)).toNat = q + 1 := by omega
        rw [e3, List.take_of_length_le (by rw [List.length_drop, bts_len]; omega)]
      rw [h2, List.length_cons] at hs
      rw [genSplit_l2_eq p0 j n hj k (i + 1) fl _ _ (by omega) (by omega) (by omega) (by simp [ha]) (by simp [ha']) (by rw [e2]; omega) (by rw [ByteArray.size_extract]; omega), e2, h2]
      congr 1
      rw [Int.toNat_natCast, List.take_add_one, List.take_set_of_le (Nat.le_refl i), List.getElem?_set_self hi', extract_mkB]
      have e4 : ((q : Int) + 0).toNat - ((0 : Nat) : Int).toNat = q := by omega
      rw [e4]
      simp

theorem strings_Count_dot {s : ByteArray} : strings_Count s ⟨#[46]⟩ = some ((Lib.countByte (bts s) 46 : Nat) : Int) := by
  unfold strings_Count
  have c1 : decide (((⟨#[46]⟩ : ByteArray).size : Int) = 0) = false := by rw [dotB]; decide
  have c2 : decide (((⟨#[46]⟩ : ByteArray).size : Int) = 1) = true := by rw [dotB]; decide
  have h46 : (46 : Int).toNat.toUInt8 = 46 := by decide
  rw [c1, cond_false, c2, cond_true, dot_sidx, bnd1_mk, h46]
  rfl

theorem i_Labels_eq {s : ByteArray} (hs : s.size ≤ 1048576) : i_Labels s = some (labels s) := by
  unfold i_Labels
  by_cases hne : s = ⟨#[]⟩
  · subst hne
    have e : bts (⟨#[]⟩ : ByteArray) = [] := rfl
    simp [labels, e]
  · have e : bts s ≠ [] := fun h => hne ((bts_nil_iff s).2 h)
    have hne' : ¬ ((⟨#[46]⟩ : ByteArray) = ⟨#[]⟩) := by decide
    have hc := count_segs (bts s) []
    have hl := segs_len (bts s) []
    rw [bts_len] at hl
    have e0 := strings_Count_dot (s := s)
    have hjj : (if (s.size : Int) + 1 < ((Lib.countByte (bts s) 46 : Nat) : Int) + 1 then (s.size : Int) + 1 else ((Lib.countByte (bts s) 46 : Nat) : Int) + 1) = ((Lib.countByte (bts s) 46 : Nat) : Int) + 1 := by rw [if_neg (by omega)]
    have hloop := genSplit_l2_eq s (((Lib.countByte (bts s) 46 : Nat) : Int) + 1) (Lib.countByte (bts s) 46) (by rw [hjj]; omega) (Lib.countByte (bts s) 46) 0 fuel0 s (List.replicate (((Lib.countByte (bts s) 46 : Nat) : Int) + 1).toNat ⟨#[]⟩) (by omega) (by omega) (by unfold fuel0; omega) (by simp) (by simp; omega) (by omega) hs
    have g0 : decide ((-1 : Int) = 0) = false := by decide
    have g1 : decide ((⟨#[46]⟩ : ByteArray) = ⟨#[]⟩) = false := decide_eq_false hne'
    have g2 : decide ((-1 : Int) < 0) = true := by decide
    rw [decide_eq_false hne, cond_false, strings_Split, strings_genSplit, g0, g1, g2, cond_false, cond_false, cond_true, e0, bnd1_mk, grd_pos (by simp only [i64]; omega), strings_genSplit_j0, hjj, grd_pos (by simp only [i64]; omega), grd_pos (by omega), grd_pos (by simp only [i64]; omega)]
    rw [Int.natCast_zero] at hloop
    rw [hloop, bnd1_mk, bnd1_mk]
    unfold labels
    rw [if_neg e, List.take_zero, List.nil_append]

theorem idx_sub {α : Type} {l : List α} {n : Nat} (h : n ≤ l.length) : idx l ((l.length : Int) - (n : Int)) = l[l.length - n]? := by
  have e : (l.length : Int) - (n : Int) = ((l.length - n : Nat) : Int) := by omega
  rw [e, idx_nat]

theorem slices_IndexFunc_Record_l0_eq {g : Rec → Option Bool} {p : Rec → Bool} : ∀ (l : List Rec) (i : Nat), (∀ r, r ∈ l → g r = some (p r)) → ∃ v, slices_IndexFunc_Record_l0 g l i = some v ∧ decide (0 ≤ v) = l.any p
  | [], i, _ => ⟨-1, rfl, rfl⟩
  | r :: l, i, h => by
    rw [slices_IndexFunc_Record_l0, h r (.head _), bnd1_mk]
    cases c : p r with
    | true => exact ⟨i, rfl, by simp [c]⟩
    | false =>
      obtain ⟨v, h1, h2⟩ := slices_IndexFunc_Record_l0_eq l (i + 1) fun q hq => h q (.tail _ hq)
      exact ⟨v, h1, by simp [c, h2]⟩

theorem slices_ContainsFunc_Record_eq {g : Rec → Option Bool} {p : Rec → Bool} {l : List Rec} (h : ∀ r, r ∈ l → g r = some (p r)) : slices_ContainsFunc_Record l g = some (l.any p) := by
  obtain ⟨v, h1, h2⟩ := slices_IndexFunc_Record_l0_eq l 0 h
  unfold slices_ContainsFunc_Record slices_IndexFunc_Record
  rw [h1, bnd1_mk, h2]

def hasS (s : ByteArray) (l : List ByteArray) : Bool := l.any fun x => decide (x = s)

theorem s_l9Has_l0_eq {s : ByteArray} : ∀ (l : List ByteArray) (i : Nat), s_l9Has_l0 s l i = some (hasS s l)
  | [], i => rfl
  | x :: l, i => by
    rw [s_l9Has_l0, s_l9Has_l0_eq l (i + 1)]
    by_cases c : x = s <;> simp [c, hasS]

theorem s_l9Has_eq {l : List ByteArray} {s : ByteArray} : s_l9Has l s = some (hasS s l) := s_l9Has_l0_eq _ _

theorem slices_Index_string_l0_eq {s : ByteArray} : ∀ (l : List ByteArray) (i : Nat), ∃ v, slices_Index_string_l0 s l i = some v ∧ decide (0 ≤ v) = hasS s l
  | [], i => ⟨-1, rfl, rfl⟩
  | x :: l, i => by
    rw [slices_Index_string_l0]
    by_cases c : s = x
    · subst c; exact ⟨i, by simp, by simp [hasS]⟩
    · obtain ⟨v, h1, h2⟩ := slices_Index_string_l0_eq (s := s) l (i + 1)
      have c' : ¬ (x = s) := fun h => c h.symm
      exact ⟨v, by simp [c, h1], by rw [h2]; simp [hasS, c']⟩

theorem slices_Contains_string_eq {l : List ByteArray} {s : ByteArray} : slices_Contains_string l s = some (hasS s l) := by
  obtain ⟨v, h1, h2⟩ := slices_Index_string_l0_eq (s := s) l 0
  unfold slices_Contains_string slices_Index_string
  rw [h1, bnd1_mk, h2]

theorem set_app {α : Type} (pre t : List α) (x y : α) : (pre ++ x :: t).set pre.length y = pre ++ y :: t := by simp

theorem get_app {α : Type} (pre t : List α) (x : α) : (pre ++ x :: t)[pre.length]? = some x := by simp

def hostP (out : List ByteArray) (r : Rec) : Bool := decide (r.ty = 2) && !hasS r.host out

def hostsL : List Rec → List ByteArray → List ByteArray
  | [], out => out
  | r :: l, out => bif hostP out r then hostsL l (out ++ [r.host]) else hostsL l out

theorem i_Hosts_l0_eq : ∀ (l : List Rec) (out : List ByteArray) (i : Nat), out.length + l.length ≤ 1048576 → i_Hosts_l0 l out i = some (hostsL l out)
  | [], out, i, _ => rfl
  | r :: l, out, i, hl => by
    simp only [List.length_cons] at hl
    have h1 := i_Hosts_l0_eq l (out ++ [r.host]) (i + 1) (by simp; omega)
    have h2 := i_Hosts_l0_eq l out (i + 1) (by omega)
    rw [i_Hosts_l0, hostsL, hostP, slices_Contains_string_eq, bnd1_mk]
    by_cases c1 : r.ty = 2 <;> cases c4 : hasS r.host out <;> simp [i_Hosts_j1, c1, h2] <;> (rw [grd_pos (by omega)]; exact h1)

theorem s_Hosts_l0_eq : ∀ (l : List Rec) (out : List ByteArray) (i : Nat), out.length + l.length ≤ 1048576 → s_Hosts_l0 l out i = some (hostsL l out)
  | [], out, i, _ => rfl
  | r :: l, out, i, hl => by
    simp only [List.length_cons] at hl
    have h1 := s_Hosts_l0_eq l (out ++ [r.host]) (i + 1) (by simp; omega)
    have h2 := s_Hosts_l0_eq l out (i + 1) (by omega)
    rw [s_Hosts_l0, hostsL, hostP, s_l9Has_eq, bnd1_mk]
    by_cases c1 : r.ty = 2 <;> cases c4 : hasS r.host out <;> simp [s_Hosts_j1, c1, h2] <;> (rw [grd_pos (by omega)]; exact h1)

theorem i_Hosts_eq {l : List Rec} (h : smL l) : i_Hosts l = some (hostsL l []) := i_Hosts_l0_eq _ _ _ (by simpa using h.1)

theorem s_Hosts_eq {l : List Rec} (h : smL l) : s_Hosts l = some (hostsL l []) := s_Hosts_l0_eq _ _ _ (by simpa using h.1)

theorem rec_ext {a b : Rec} : (decide (a.name = b.name) && (decide (a.ty = b.ty) && (decide (a.ttl = b.ttl) && (decide (a.n = b.n) && (decide (a.host = b.host) && (decide (a.text = b.text) && true)))))) = decide (a = b) := by
  cases a; cases b
  simp [Bool.and_assoc]

def zt (r : Rec) : Rec := ⟨r.name, r.ty, 0, r.n, r.host, r.text⟩

theorem zt_ext {a b : Rec} {x : Int} : (decide (a.name = b.name) && (decide (a.ty = b.ty) && (decide (x = x) && (decide (a.n = b.n) && (decide (a.host = b.host) && (decide (a.text = b.text) && true)))))) = decide (zt a = zt b) := by
  cases a; cases b
  simp [zt, Bool.and_assoc]

theorem slices_Clone_Record_eq {l : List Rec} (h : l.length ≤ 1099511627776) : slices_Clone_Record l = some l := by
  unfold slices_Clone_Record
  rw [List.nil_append, grd_pos h]

def setTtl (k : Int) (r : Rec) : Rec := ⟨r.name, r.ty, k, r.n, r.host, r.text⟩

theorem i_WithTtl_l0_eq (k : Int) : ∀ (t pre : List Rec), i_WithTtl_l0 k t (pre ++ t) pre.length = some (pre ++ t.map (setTtl k))
  | [], pre => by simp [i_WithTtl_l0]
  | r :: t, pre => by
    rw [i_WithTtl_l0, idx_nat, get_app, bnd1_mk, Int.toNat_natCast, set_app]
    have h := i_WithTtl_l0_eq k t (pre ++ [setTtl k r])
    simp only [List.append_assoc, List.singleton_append, List.length_append, List.length_singleton] at h
    unfold setTtl at h ⊢
    rw [h]
    simp

theorem i_WithTtl_eq {l : List Rec} {k : Int} (h : l.length ≤ 1099511627776) : i_WithTtl l k = some (l.map (setTtl k)) := by
  unfold i_WithTtl
  rw [slices_Clone_Record_eq h, bnd1_mk]
  exact i_WithTtl_l0_eq k l []

def within (a b : List Rec) : Bool := a.all fun r => b.any fun x => decide (zt x = zt r)

theorem slices_Index_Record_l0_eq {r : Rec} : ∀ (l : List Rec) (i : Nat), ∃ v, slices_Index_Record_l0 r l i = some v ∧ decide (0 ≤ v) = l.any fun x => decide (r = x)
  | [], i => ⟨-1, rfl, rfl⟩
  | x :: l, i => by
    rw [slices_Index_Record_l0, rec_ext]
    by_cases c : r = x
    · exact ⟨i, by simp [c], by simp [c]⟩
    · obtain ⟨v, h1, h2⟩ := slices_Index_Record_l0_eq (r := r) l (i + 1)
      exact ⟨v, by simp [c, h1], by rw [h2]; simp [c]⟩

theorem slices_Contains_Record_eq {l : List Rec} {r : Rec} : slices_Contains_Record l r = some (l.any fun x => decide (r = x)) := by
  obtain ⟨v, h1, h2⟩ := slices_Index_Record_l0_eq (r := r) l 0
  unfold slices_Contains_Record slices_Index_Record
  rw [h1, bnd1_mk, h2]

theorem i_within_eq {a b : List Rec} (ha : a.length ≤ 1048576) (hb : b.length ≤ 1048576) : i_within a b = some (within a b) := by
  unfold i_within
  rw [i_WithTtl_eq (by omega), bnd1_mk, i_WithTtl_eq (by omega), bnd1_mk,
    slices_ContainsFunc_Record_eq (p := fun r => !(b.map (setTtl 0)).any fun x => decide (r = x)) fun r _ => by unfold i_within_1; rw [slices_Contains_Record_eq]; rfl]
  rw [bnd1_mk]
  congr 1
  unfold within
  rw [List.any_map, List.not_any_eq_all_not]
  congr 1
  funext r
  simp only [Function.comp, Bool.not_not, List.any_map]
  congr 1
  funext x
  exact decide_eq_decide.2 ⟨fun h => h.symm, fun h => h.symm⟩

theorem i_SameData_eq {a b : List Rec} (ha : a.length ≤ 1048576) (hb : b.length ≤ 1048576) : i_SameData a b = some (within a b && within b a) := by
  unfold i_SameData
  rw [i_within_eq ha hb, bnd1_mk, i_within_eq hb ha]
  cases within a b <;> rfl

theorem s_l9In_l0_eq {r : Rec} : ∀ (l : List Rec) (i : Nat), s_l9In_l0 r l i = some (l.any fun x => decide (zt x = zt r))
  | [], i => rfl
  | x :: l, i => by
    rw [s_l9In_l0, zt_ext, s_l9In_l0_eq l (i + 1)]
    by_cases c : zt x = zt r <;> simp [c]

theorem s_SameData_l2_eq {a : List Rec} : ∀ (l : List Rec) (i : Nat), s_SameData_l2 a l i = some (within l a)
  | [], i => rfl
  | r :: l, i => by
    rw [s_SameData_l2, s_l9In, s_l9In_l0_eq, bnd1_mk, s_SameData_l2_eq l (i + 1)]
    unfold within
    rw [List.all_cons]
    cases a.any fun x => decide (zt x = zt r) <;> rfl

theorem s_SameData_l1_eq {a b : List Rec} : ∀ (l : List Rec) (i : Nat), s_SameData_l1 a b l i = some (within l b && within b a)
  | [], i => by rw [s_SameData_l1, s_SameData_j0, s_SameData_l2_eq]; rfl
  | r :: l, i => by
    rw [s_SameData_l1, s_l9In, s_l9In_l0_eq, bnd1_mk, s_SameData_l1_eq l (i + 1)]
    conv => rhs; rw [within]
    rw [List.all_cons]
    cases b.any fun x => decide (zt x = zt r) <;> rfl

theorem s_SameData_eq {a b : List Rec} : s_SameData a b = some (within a b && within b a) := s_SameData_l1_eq a 0

theorem s_l7Copy_eq {l : List Rec} (h : l.length ≤ 1099511627776) : s_l7Copy l = some l := by
  unfold s_l7Copy; rw [List.nil_append, grd_pos h]

theorem fuel_lt {k : Nat} (h : k ≤ 1048576) : k < fuel0 := by unfold fuel0; omega

def Cur.inv (c : Cur) : Prop := 0 ≤ c.i ∧ c.b.length ≤ 1048576

theorem iand_255 (x : Int) : 0 ≤ iand .i64 x 255 ∧ iand .i64 x 255 ≤ 255 := by
  unfold iand
  have h : (BitVec.ofInt (IntKind.i64).bits x &&& BitVec.ofInt (IntKind.i64).bits 255).toNat ≤ 255 := by
    rw [BitVec.toNat_and]; exact Nat.le_trans Nat.and_le_right (by decide)
  generalize (BitVec.ofInt (IntKind.i64).bits x &&& BitVec.ofInt (IntKind.i64).bits 255).toNat = n at h
  rw [wrap_id (by omega)]; omega

theorem idx_ok {α : Type} {l : List α} {i : Int} (h0 : 0 ≤ i) (h1 : i < l.length) : ∃ x, idx l i = some x ∧ x ∈ l := by
  have h2 : i.toNat < l.length := by omega
  exact ⟨l[i.toNat], by unfold idx; rw [if_pos h0, List.getElem?_eq_getElem h2], List.getElem_mem h2⟩

theorem s_l1Byte_p {c : Cur} (h : c.inv) : ∃ x d, s_l1Byte c = some (x, d) ∧ d.inv ∧ 0 ≤ x ∧ x ≤ 255 := by
  obtain ⟨h1, h2⟩ := h
  unfold s_l1Byte
  by_cases p : c.i < (c.b.length : Int)
  · obtain ⟨y, hy, -⟩ := idx_ok h1 p
    rw [decide_eq_true p, cond_true, hy, bnd1_mk]
    exact ⟨_, _, rfl, ⟨by show 0 ≤ IntKind.i64.wrap (c.i + 1); rw [wrap_id (by omega)]; omega, h2⟩, (iand_255 _).1, (iand_255 _).2⟩
  · rw [decide_eq_false p, cond_false]
    exact ⟨_, _, rfl, ⟨h1, h2⟩, (iand_255 _).1, (iand_255 _).2⟩

theorem s_l1Below_p {c : Cur} {n : Int} (h : c.inv) (h1 : 0 < n) (h2 : n ≤ 256) : ∃ x d, s_l1Below c n = some (x, d) ∧ d.inv ∧ 0 ≤ x ∧ x < n := by
  obtain ⟨x, d, e, hd, hx, hy⟩ := s_l1Byte_p h
  have c1 : ¬ (n ≤ 0) := by omega
  unfold s_l1Below
  rw [decide_eq_false c1, cond_false, decide_eq_true h2, cond_true, e, bnd2_mk, grd_pos (by omega)]
  exact ⟨_, _, rfl, hd, Int.tmod_nonneg n hx, Int.tmod_lt_of_pos x h1⟩

theorem s_l1Once_p {c : Cur} {n : Int} (h : c.inv) (h1 : 0 < n) (h2 : n ≤ 256) : ∃ x d, s_l1Once c n = some (x, d) ∧ d.inv := by
  obtain ⟨x, d, e, hd, -, -⟩ := s_l1Below_p h h1 h2
  unfold s_l1Once
  rw [e, bnd2_mk]
  exact ⟨_, _, rfl, hd⟩

theorem s_l1Str_p {c : Cur} {l : List ByteArray} (h : c.inv) (h1 : 0 < l.length) (h2 : l.length ≤ 256) : ∃ x d, s_l1Str c l = some (x, d) ∧ d.inv ∧ x ∈ l := by
  obtain ⟨x, d, e, hd, hx, hy⟩ := s_l1Below_p (n := (l.length : Int)) h (by omega) (by omega)
  obtain ⟨y, e2, hm⟩ := idx_ok hx hy
  unfold s_l1Str
  rw [e, bnd2_mk, e2, bnd1_mk]
  exact ⟨_, _, rfl, hd, hm⟩

theorem s_l1Int_p {c : Cur} {l : List Int} (h : c.inv) (h1 : 0 < l.length) (h2 : l.length ≤ 256) : ∃ x d, s_l1Int c l = some (x, d) ∧ d.inv ∧ x ∈ l := by
  obtain ⟨x, d, e, hd, hx, hy⟩ := s_l1Below_p (n := (l.length : Int)) h (by omega) (by omega)
  obtain ⟨y, e2, hm⟩ := idx_ok hx hy
  unfold s_l1Int
  rw [e, bnd2_mk, e2, bnd1_mk]
  exact ⟨_, _, rfl, hd, hm⟩

theorem small_of {l : List ByteArray} {x : ByteArray} (h : (l.all fun y => Nat.ble y.size 1048576) = true) (hx : x ∈ l) : x.size ≤ 1048576 := Nat.le_of_ble_eq_true (List.all_eq_true.1 h x hx)

theorem s_l3Name_p {c : Cur} (h : c.inv) : ∃ x d, s_l3Name c = some (x, d) ∧ d.inv ∧ x.size ≤ 1048576 := by
  unfold s_l3Name
  refine (fun {l : List ByteArray} (h1 : 0 < l.length) (h2 : l.length ≤ 256) (h3 : (l.all fun y => Nat.ble y.size 1048576) = true) => ?_ : ∀ {l : List ByteArray}, 0 < l.length → l.length ≤ 256 → (l.all fun y => Nat.ble y.size 1048576) = true → ∃ x d, bnd2 (s_l1Str c l) (fun x1 x2 => some (x1, x2)) = some (x, d) ∧ d.inv ∧ x.size ≤ 1048576) (by decide) (by decide) rfl
  obtain ⟨x, d, e, hd, hm⟩ := s_l1Str_p h h1 h2
  rw [e, bnd2_mk]
  exact ⟨_, _, rfl, hd, small_of h3 hm⟩

theorem s_l5Type_p {c : Cur} (h : c.inv) : ∃ x d, s_l5Type c = some (x, d) ∧ d.inv ∧ x ∈ [1, 1, 1, 2, 2, 5, 6, 16] := by
  obtain ⟨x, d, e, hd, hm⟩ := s_l1Int_p (l := [1, 1, 1, 2, 2, 5, 6, 16]) h (by decide) (by decide)
  unfold s_l5Type
  rw [e, bnd2_mk]
  exact ⟨_, _, rfl, hd, hm⟩

theorem size_nil : (⟨#[]⟩ : ByteArray).size ≤ 1048576 := by decide

theorem s_l5Draw_j0_p {x : ByteArray} {k t : Int} {c : Cur} {b : Bool} (h : c.inv) (hx : x.size ≤ 1048576) : ∃ r d, s_l5Draw_j0 x k t c b = some (r, d) ∧ d.inv ∧ r.sm := by
  unfold s_l5Draw_j0
  obtain ⟨y, d, e, hd, hy⟩ := s_l3Name_p h
  obtain ⟨z, d2, e2, hd2, -⟩ := s_l1Int_p (l := [0, 5, 60]) hd (by decide) (by decide)
  obtain ⟨w, d3, e3, hd3, hw⟩ := s_l1Str_p (l := [(⟨#[]⟩ : ByteArray), (⟨#[104, 105]⟩ : ByteArray), (⟨#[116, 119, 101, 108, 118, 101, 98, 121, 116, 101, 115, 33]⟩ : ByteArray)]) h (by decide) (by decide)
  have hw2 := small_of rfl hw
  cases b with
  | true => rw [cond_true, e, bnd2_mk]; exact ⟨_, _, rfl, hd, hx, hy, size_nil⟩
  | false =>
    rw [cond_false]
    cases decide (k = 6) with
    | true => rw [cond_true, e, bnd2_mk, e2, bnd2_mk]; exact ⟨_, _, rfl, hd2, hx, hy, size_nil⟩
    | false =>
      rw [cond_false]
      cases decide (k = 16) with
      | true => rw [cond_true, e3, bnd2_mk]; exact ⟨_, _, rfl, hd3, hx, size_nil, hw2⟩
      | false => exact ⟨_, _, rfl, h, hx, size_nil, size_nil⟩

theorem s_l5Draw_p {c : Cur} (h : c.inv) : ∃ r d, s_l5Draw c = some (r, d) ∧ d.inv ∧ r.sm := by
  unfold s_l5Draw
  obtain ⟨x, d1, e1, h1, hx⟩ := s_l3Name_p h
  obtain ⟨k, d2, e2, h2, -⟩ := s_l5Type_p h1
  obtain ⟨t, d3, e3, h3, -⟩ := s_l1Int_p (l := [0, 1, 5, 60, 300, 100000]) h2 (by decide) (by decide)
  obtain ⟨n, d4, e4, h4, hn, hn2⟩ := s_l1Below_p (n := 9) h3 (by omega) (by omega)
  rw [e1, bnd2_mk, e2, bnd2_mk, e3, bnd2_mk]
  cases decide (k = 1) with
  | true => rw [cond_true, e4, bnd2_mk, grd_pos (by simp only [i64]; omega)]; exact ⟨_, _, rfl, h4, hx, size_nil, size_nil⟩
  | false =>
    rw [cond_false]
    cases decide (k = 2) with
    | true => rw [cond_true]; exact s_l5Draw_j0_p h3 hx
    | false => rw [cond_false]; exact s_l5Draw_j0_p h3 hx

theorem s_l9Near_l0_p : ∀ (k fl : Nat) (c : Cur) (l : List Rec), c.inv → k < fl → (∀ r, r ∈ l → r.sm) → l.length + k ≤ 1000 → ∃ m d, s_l9Near_l0 fl c.b c.i c.h l (k : Int) = some (m, d) ∧ d.inv ∧ m.length ≤ l.length + k ∧ ∀ r, r ∈ m → r.sm
  | 0, fl, c, l, h, hf, hr, hl => by
    obtain ⟨fl, rfl⟩ : ∃ q, fl = q + 1 := ⟨fl - 1, by omega⟩
    rw [s_l9Near_l0]
    exact ⟨l, c, rfl, h, Nat.le_refl _, hr⟩
  | k + 1, fl, c, l, h, hf, hr, hl => by
    obtain ⟨fl, rfl⟩ : ∃ q, fl = q + 1 := ⟨fl - 1, by omega⟩
    have c1 : (0 : Int) < ((k + 1 : Nat) : Int) := by omega
    obtain ⟨r, d1, e1, h1, hr1⟩ := s_l5Draw_p h
    obtain ⟨y, d2, e2, h2, hy⟩ := s_l1Str_p (l := [(⟨#[101, 120, 46, 99, 111, 109]⟩ : ByteArray), (⟨#[110, 115, 46, 101, 120, 46, 99, 111, 109]⟩ : ByteArray)]) h1 (by decide) (by decide)
    have hy2 := small_of rfl hy
    obtain ⟨o, d3, e3, h3⟩ := s_l1Once_p (n := 2) h2 (by omega) (by omega)
    obtain ⟨n, d4, e4, h4, -, -⟩ := s_l1Below_p (n := 3) h3 (by omega) (by omega)
    have hj : ∀ (q : Cur) (a b : Int) (s t : ByteArray), q.inv → s.size ≤ 1048576 → t.size ≤ 1048576 → ∃ m d, s_l9Near_j1 l ((k + 1 : Nat) : Int) r y (s_l9Near_l0 fl) q.b q.i q.h a b s t = some (m, d) ∧ d.inv ∧ m.length ≤ l.length + (k + 1) ∧ ∀ r, r ∈ m → r.sm := by
      intro q a b s t hq hs ht
      have e : ((k + 1 : Nat) : Int) - 1 = (k : Int) := by omega
      unfold s_l9Near_j1
      rw [grd_pos (by rw [List.length_append, List.length_singleton]; omega), grd_pos (by simp only [i64]; omega), e]
      obtain ⟨m, d, g1, g2, g3, g4⟩ := s_l9Near_l0_p k fl q (l ++ [⟨y, a, r.ttl, b, s, t⟩]) hq (by omega) (fun x hx => by
        rcases List.mem_append.1 hx with hx | hx
        · exact hr x hx
        · rw [List.mem_singleton] at hx; rw [hx]; exact ⟨hy2, hs, ht⟩) (by rw [List.length_append, List.length_singleton]; omega)
      exact ⟨m, d, g1, g2, by rw [List.length_append, List.length_singleton] at g3; omega, g4⟩
    rw [s_l9Near_l0, decide_eq_true c1, cond_true, e1, bnd2_mk, e2, bnd2_mk, e3, bnd2_mk]
    cases o with
    | true => rw [cond_true, e4, bnd2_mk]; exact hj d4 _ _ _ _ h4 size_nil size_nil
    | false => rw [cond_false]; exact hj d3 _ _ _ _ h3 hr1.2.1 hr1.2.2

theorem s_l1New_l1_p {b : List Int} (hb : b.length ≤ 1048576) : ∀ (k fl i : Nat) (h : Int), b.length - i = k → i ≤ b.length → k < fl → ∃ c, s_l1New_l1 b fl h (i : Int) = some c ∧ c.inv
  | 0, fl, i, h, hk, hi, hf => by
    obtain ⟨fl, rfl⟩ : ∃ q, fl = q + 1 := ⟨fl - 1, by omega⟩
    have c1 : ¬ ((i : Int) < (b.length : Int)) := by omega
    rw [s_l1New_l1, decide_eq_false c1, cond_false]
    exact ⟨_, rfl, Int.le_refl 0, hb⟩
  | k + 1, fl, i, h, hk, hi, hf => by
    obtain ⟨fl, rfl⟩ : ∃ q, fl = q + 1 := ⟨fl - 1, by omega⟩
    have c1 : (i : Int) < (b.length : Int) := by omega
    rw [s_l1New_l1, decide_eq_true c1, cond_true]
    unfold s_l1New_j2
    cases decide ((i : Int) < 4000) with
    | false => exact ⟨_, rfl, Int.le_refl 0, hb⟩
    | true =>
      obtain ⟨x, hx, -⟩ := idx_ok (l := b) (i := (i : Int)) (by omega) c1
      have e : IntKind.i64.wrap ((i : Int) + 1) = ((i + 1 : Nat) : Int) := by rw [wrap_id (by omega)]; omega
      rw [cond_true, hx, bnd1_mk, e]
      exact s_l1New_l1_p hb k fl (i + 1) _ (by omega) (by omega) (by omega)

theorem s_l1New_p {b : List Int} (hb : b.length ≤ 1048576) : ∃ c, s_l1New b = some c ∧ c.inv := s_l1New_l1_p hb b.length fuel0 0 _ (by omega) (by omega) (fuel_lt hb)

theorem s_WithTtl_l0_eq (k : Int) : ∀ (t pre : List Rec) (fl : Nat), t.length < fl → pre.length + t.length ≤ 1048576 → s_WithTtl_l0 k fl (pre ++ t) (pre.length : Int) = some (pre ++ t.map (setTtl k))
  | [], pre, fl, hf, hl => by
    obtain ⟨fl, rfl⟩ : ∃ q, fl = q + 1 := ⟨fl - 1, by simp at hf; omega⟩
    have c : ¬ ((pre.length : Int) < ((pre ++ ([] : List Rec)).length : Int)) := by simp
    rw [s_WithTtl_l0, decide_eq_false c, cond_false]
    simp
  | r :: t, pre, fl, hf, hl => by
    simp only [List.length_cons] at hf hl
    obtain ⟨fl, rfl⟩ : ∃ q, fl = q + 1 := ⟨fl - 1, by omega⟩
    have c : (pre.length : Int) < ((pre ++ r :: t).length : Int) := by simp; omega
    have e : (pre.length : Int) + 1 = ((pre ++ [setTtl k r]).length : Int) := by simp
    have h := s_WithTtl_l0_eq k t (pre ++ [setTtl k r]) fl (by omega) (by simp; omega)
    rw [s_WithTtl_l0, decide_eq_true c, cond_true, idx_nat, get_app, bnd1_mk, grd_pos (by simp only [i64]; omega), Int.toNat_natCast, set_app, e]
    simp only [List.append_assoc, List.singleton_append, List.map_cons] at h ⊢
    exact h

theorem s_WithTtl_eq {l : List Rec} {k : Int} (h : l.length ≤ 1048576) : s_WithTtl l k = some (l.map (setTtl k)) := by
  unfold s_WithTtl
  rw [s_l7Copy_eq (by omega), bnd1_mk]
  exact s_WithTtl_l0_eq k l [] fuel0 (fuel_lt h) (by simpa using h)

theorem bL_irr : ∀ x : List UInt8, Op.bytesLess x x = false
  | [] => rfl
  | a :: x => by simp [Op.bytesLess, bL_irr x, UInt8.lt_irrefl]

theorem bL_trans : ∀ x y z : List UInt8, Op.bytesLess x y = true → Op.bytesLess y z = true → Op.bytesLess x z = true
  | [], [], _, h, _ => by simp [Op.bytesLess] at h
  | [], _ :: _, [], _, h => by simp [Op.bytesLess] at h
  | [], _ :: _, _ :: _, _, _ => rfl
  | _ :: _, [], _, h, _ => by simp [Op.bytesLess] at h
  | _ :: _, _ :: _, [], _, h => by simp [Op.bytesLess] at h
  | a :: x, b :: y, c :: z, h, k => by
    simp only [Op.bytesLess, Bool.or_eq_true, decide_eq_true_eq, Bool.and_eq_true, beq_iff_eq] at h k ⊢
    rcases h with h | ⟨h, h'⟩ <;> rcases k with k | ⟨k, k'⟩
    · exact .inl (UInt8.lt_trans h k)
    · exact .inl (k ▸ h)
    · exact .inl (h ▸ k)
    · exact .inr ⟨h.trans k, bL_trans x y z h' k'⟩

theorem bL_tot : ∀ x y : List UInt8, x ≠ y → Op.bytesLess x y = true ∨ Op.bytesLess y x = true
  | [], [], h => absurd rfl h
  | [], _ :: _, _ => .inl rfl
  | _ :: _, [], _ => .inr rfl
  | a :: x, b :: y, h => by
    simp only [Op.bytesLess, Bool.or_eq_true, decide_eq_true_eq, Bool.and_eq_true, beq_iff_eq]
    by_cases c : a = b
    · subst c
      rcases bL_tot x y (fun e => h (by rw [e])) with k | k
      · exact .inl (.inr ⟨rfl, k⟩)
      · exact .inr (.inr ⟨rfl, k⟩)
    · have : a < b ∨ b < a := by
        have h1 : a.toNat ≠ b.toNat := fun e => c (UInt8.toNat_inj.1 e)
        rw [UInt8.lt_iff_toNat_lt, UInt8.lt_iff_toNat_lt]; omega
      rcases this with k | k
      · exact .inl (.inl k)
      · exact .inr (.inl k)

def bl (a b : ByteArray) : Bool := Op.bytesLess (bts a) (bts b)

theorem bl_eq {a b : ByteArray} : Op.bytesLess a.toList b.toList = bl a b := by unfold bl bts; rw [ByteArray.toList_eq, ByteArray.toList_eq]

theorem bl_irr (a : ByteArray) : bl a a = false := bL_irr _

theorem bl_trans (a b c : ByteArray) (h : bl a b = true) (k : bl b c = true) : bl a c = true := bL_trans _ _ _ h k

theorem bl_tot (a b : ByteArray) (h : a ≠ b) : bl a b = true ∨ bl b a = true := bL_tot _ _ (fun e => h (bts_inj.1 e))

def lexN : List ByteArray → List ByteArray → Bool
  | _, [] => false
  | [], _ :: _ => true
  | x :: xs, y :: ys => if x = y then lexN xs ys else bl x y

theorem lexN_irr : ∀ x : List ByteArray, lexN x x = false
  | [] => rfl
  | a :: x => by simp [lexN, lexN_irr x]

theorem lexN_trans : ∀ x y z : List ByteArray, lexN x y = true → lexN y z = true → lexN x z = true
  | [], [], _, h, _ => by simp [lexN] at h
  | [], _ :: _, [], _, h => by simp [lexN] at h
  | [], _ :: _, _ :: _, _, _ => rfl
  | _ :: _, [], _, h, _ => by simp [lexN] at h
  | _ :: _, _ :: _, [], _, h => by simp [lexN] at h
  | a :: x, b :: y, c :: z, h, k => by
    unfold lexN at h k ⊢
    by_cases e1 : a = b
    · subst e1
      rw [if_pos rfl] at h
      by_cases e2 : a = c
      · rw [if_pos e2] at k ⊢; exact lexN_trans x y z h k
      · rw [if_neg e2] at k ⊢; exact k
    · rw [if_neg e1] at h
      by_cases e2 : b = c
      · subst e2; rw [if_neg e1]; exact h
      · rw [if_neg e2] at k
        have h3 := bl_trans a b c h k
        by_cases e3 : a = c
        · subst e3; rw [bl_irr] at h3; cases h3
        · rw [if_neg e3]; exact h3

theorem lexN_tot : ∀ x y : List ByteArray, x ≠ y → lexN x y = true ∨ lexN y x = true
  | [], [], h => absurd rfl h
  | [], _ :: _, _ => .inl rfl
  | _ :: _, [], _ => .inr rfl
  | a :: x, b :: y, h => by
    unfold lexN
    by_cases c : a = b
    · subst c
      rw [if_pos rfl, if_pos rfl]; exact lexN_tot x y (fun e => h (by rw [e]))
    · rw [if_neg c, if_neg (fun e => c e.symm)]; exact bl_tot a b c

def lessN (a b : ByteArray) : Bool := lexN (labels a).reverse (labels b).reverse

def unseg : List (List UInt8) → List UInt8
  | [] => []
  | [x] => x
  | x :: y :: t => x ++ 46 :: unseg (y :: t)

theorem unseg_cons {x : List UInt8} {t : List (List UInt8)} (h : t ≠ []) : unseg (x :: t) = x ++ 46 :: unseg t := by cases t with | nil => exact absurd rfl h | cons y t => rfl

theorem segs_ne (cur l : List UInt8) : segs cur l ≠ [] := fun h => by have := segs_pos cur l; rw [h] at this; simp at this

theorem unseg_segs : ∀ (l cur : List UInt8), unseg (segs cur l) = cur ++ l
  | [], cur => by simp [segs, unseg]
  | b :: l, cur => by
    unfold segs
    by_cases c : b = 46
    · subst c; simp only [if_true]; rw [unseg_cons (segs_ne _ _), unseg_segs l []]; simp
    · simp only [c, if_false]; rw [unseg_segs l (cur ++ [b])]; simp

theorem mkB_inj {a b : List UInt8} (h : mkB a = mkB b) : a = b := by rw [← bts_mkB a, h, bts_mkB]

theorem map_mkB_inj : ∀ {a b : List (List UInt8)}, a.map mkB = b.map mkB → a = b
  | [], [], _ => rfl
  | [], _ :: _, h => by simp at h
  | _ :: _, [], h => by simp at h
  | x :: a, y :: b, h => by
    simp only [List.map_cons, List.cons.injEq] at h
    rw [mkB_inj h.1, map_mkB_inj h.2]

theorem labels_inj {a b : ByteArray} (h : labels a = labels b) : a = b := by
  unfold labels at h
  by_cases ca : bts a = [] <;> by_cases cb : bts b = []
  · exact bts_inj.1 (ca.trans cb.symm)
  · rw [if_pos ca, if_neg cb] at h
    exact absurd (List.map_eq_nil_iff.1 h.symm) (segs_ne _ _)
  · rw [if_neg ca, if_pos cb] at h
    exact absurd (List.map_eq_nil_iff.1 h) (segs_ne _ _)
  · rw [if_neg ca, if_neg cb] at h
    have h1 := map_mkB_inj h
    have h2 := congrArg unseg h1
    rw [unseg_segs, unseg_segs] at h2
    exact bts_inj.1 h2

theorem lessN_irr (a : ByteArray) : lessN a a = false := lexN_irr _

theorem lessN_trans (a b c : ByteArray) (h : lessN a b = true) (k : lessN b c = true) : lessN a c = true := lexN_trans _ _ _ h k

theorem lessN_tot (a b : ByteArray) (h : a ≠ b) : lessN a b = true ∨ lessN b a = true := lexN_tot _ _ (fun e => h (labels_inj (List.reverse_inj.1 e)))

theorem slices_Reverse_string_l0_eq : ∀ (k fl : Nat) (pre mid suf : List ByteArray), mid.length ≤ k → k < fl → pre.length + mid.length ≤ 2097153 →
    slices_Reverse_string_l0 fl (pre ++ mid ++ suf) (pre.length : Int) ((pre.length : Int) + (mid.length : Int) - 1) = some (pre ++ mid.reverse ++ suf)
  | k, 0, _, _, _, _, h, _ => by omega
  | k, fl + 1, pre, mid, suf, hk, hfl, hl => by
    rw [slices_Reverse_string_l0]
    match mid, hk with
    | [], _ => simp [show ¬ ((pre.length : Int) < (pre.length : Int) - 1) by omega]
    | [a], _ => simp
    | a :: b :: t, hk =>
      obtain ⟨m, c, hm⟩ : ∃ m c, b :: t = m ++ [c] := ⟨(b :: t).dropLast, (b :: t).getLast (by simp), (List.dropLast_concat_getLast (by simp)).symm⟩
      rw [hm] at hk hl ⊢
      simp only [List.length_cons, List.length_append, List.length_nil] at hk hl ⊢
      have ej : ((pre.length : Int) + ((m.length + (0 + 1) + 1 : Nat) : Int) - 1) = ((pre.length + 1 + m.length : Nat) : Int) := by omega
      rw [ej]
      have e1 : pre ++ a :: (m ++ [c]) ++ suf = (pre ++ a :: m) ++ c :: suf := by simp
      have e2 : pre ++ a :: (m ++ [c]) ++ suf = pre ++ a :: (m ++ c :: suf) := by simp
      have hlt : ((pre.length : Int) < ((pre.length + 1 + m.length : Nat) : Int)) := by omega
      simp only [hlt, decide_true, cond_true, idx_nat, Int.toNat_natCast]
      have g1 : (pre ++ a :: (m ++ [c]) ++ suf)[pre.length + 1 + m.length]? = some c := by
        rw [e1, show pre.length + 1 + m.length = (pre ++ a :: m).length by simp; omega, get_app]
      have g2 : (pre ++ a :: (m ++ [c]) ++ suf)[pre.length]? = some a := by rw [e2, get_app]
      have s1 : (pre ++ a :: (m ++ [c]) ++ suf).set pre.length c = (pre ++ c :: m) ++ c :: suf := by rw [e2, set_app]; simp
      have g3 : ((pre ++ c :: m) ++ c :: suf)[pre.length + 1 + m.length]? = some c := by
        rw [show pre.length + 1 + m.length = (pre ++ c :: m).length by simp; omega, get_app]
      have s2 : ((pre ++ c :: m) ++ c :: suf).set (pre.length + 1 + m.length) a = (pre ++ [c]) ++ m ++ (a :: suf) := by
        rw [show pre.length + 1 + m.length = (pre ++ c :: m).length by simp; omega, set_app]; simp
      rw [g1, bnd1_mk, g2, bnd1_mk, s1, g3, bnd1_mk, s2, grd_pos (by simp only [i64]; omega), grd_pos (by simp only [i64]; omega)]
      have ih := slices_Reverse_string_l0_eq (k - 1) fl (pre ++ [c]) m (a :: suf) (by omega) (by omega) (by simp; omega)
      have ei : ((pre ++ [c]).length : Int) = (pre.length : Int) + 1 := by simp
      rw [ei] at ih
      have ej2 : ((pre.length + 1 + m.length : Nat) : Int) - 1 = (pre.length : Int) + 1 + (m.length : Int) - 1 := by omega
      rw [ej2, ih]
      simp

theorem slices_Reverse_string_eq {l : List ByteArray} (h : l.length ≤ 2097152) : slices_Reverse_string l = some l.reverse := by
  unfold slices_Reverse_string
  rw [grd_pos (by simp only [i64]; omega)]
  have := slices_Reverse_string_l0_eq l.length fuel0 [] l [] (Nat.le_refl _) (by unfold fuel0; omega) (by simp; omega)
  simpa using this

theorem cmp_Compare_string_eq {a b : ByteArray} : cmp_Compare_string a b = some (bif bl a b then -1 else (bif decide (a = b) then 0 else 1)) := by
  unfold cmp_Compare_string cmp_isNaN_string
  rw [bl_eq]
  have e : (a.toList == b.toList) = decide (a = b) := by
    rw [ByteArray.toList_eq, ByteArray.toList_eq]
    by_cases c : a = b
    · subst c; simp
    · have : ¬ a.data = b.data := fun h => c (bts_inj.1 (congrArg Array.toList h))
      simp [c, this]
  rw [e]
  by_cases c : a = b
  · subst c; simp [bl_irr]
  · cases bl a b <;> simp [c]

theorem slices_Compare_string_l1_eq (x y : List ByteArray) : ∀ (l q pre pre' : List ByteArray), x = pre ++ l → y = pre' ++ q → pre.length = pre'.length → ∃ c, slices_Compare_string_l1 x y l pre.length = some c ∧ decide (c < 0) = lexN l q
  | [], q, pre, pre', hx, hy, hl => by
    unfold slices_Compare_string_l1 slices_Compare_string_j0
    subst hx hy
    cases q with
    | nil => exact ⟨0, by simp [hl], rfl⟩
    | cons b q =>
      have h1 : (((pre ++ []).length : Nat) : Int) < (((pre' ++ b :: q).length : Nat) : Int) := by simp only [List.length_append, List.length_cons, List.length_nil]; omega
      exact ⟨-1, by simp only [h1, decide_true, cond_true], rfl⟩
  | a :: l, q, pre, pre', hx, hy, hl => by
    rw [slices_Compare_string_l1]
    cases q with
    | nil =>
      subst hx hy
      exact ⟨1, by simp [hl], rfl⟩
    | cons b q =>
      have h1 : ¬ ((y.length : Int) ≤ (pre.length : Int)) := by subst hy; simp; omega
      have h2 : y[pre.length]? = some b := by subst hy; rw [hl, get_app]
      simp only [h1, decide_false, cond_false, idx_nat, h2, bnd1_mk, cmp_Compare_string_eq]
      obtain ⟨c, h3, h4⟩ := slices_Compare_string_l1_eq x y l q (pre ++ [a]) (pre' ++ [b]) (by simp [hx]) (by simp [hy]) (by simp [hl])
      rw [show (pre ++ [a]).length = pre.length + 1 by simp] at h3
      by_cases c' : a = b
      · subst c'; exact ⟨c, by simp [bl_irr, h3], by simp [lexN, h4]⟩
      · cases hb : bl a b with
        | true => exact ⟨-1, by simp, by simp [lexN, c', hb]⟩
        | false => exact ⟨1, by simp [c'], by simp [lexN, c', hb]⟩

theorem i_LessName_eq {a b : ByteArray} (ha : a.size ≤ 1048576) (hb : b.size ≤ 1048576) : i_LessName a b = some (lessN a b) := by
  have h1 := labels_len a
  have h2 := labels_len b
  unfold i_LessName slices_Compare_string
  rw [i_Labels_eq ha, bnd1_mk, i_Labels_eq hb, bnd1_mk, slices_Reverse_string_eq (by omega), bnd1_mk, grd_pos (List.length_reverse ..), slices_Reverse_string_eq (by omega), bnd1_mk, grd_pos (List.length_reverse ..)]
  obtain ⟨c, h3, h4⟩ := slices_Compare_string_l1_eq (labels a).reverse (labels b).reverse (labels a).reverse (labels b).reverse [] [] rfl rfl rfl
  rw [show ([] : List ByteArray).length = 0 from rfl] at h3
  rw [h3, bnd1_mk, h4]; rfl

theorem s_LessName_l1_eq (x y : List ByteArray) (hx : x.length ≤ 2097152) (hy : y.length ≤ 2097152) (fl : Nat) : ∀ (k i : Nat), x.length - i = k → i ≤ x.length → i ≤ y.length → k + 1 < fl → s_LessName_l1 x y fl ((i : Int) + 1) = some (lexN (x.reverse.drop i) (y.reverse.drop i)) := by
  induction fl with
  | zero => intro k i _ _ _ h; omega
  | succ fl IH =>
    intro k i hk hi hi' hfl
    rw [s_LessName_l1]
    unfold s_LessName_j2 s_LessName_j0
    by_cases c1 : i = x.length
    · have e1 : x.reverse.drop i = [] := List.drop_eq_nil_of_le (by simp; omega)
      have h1 : ¬ ((i : Int) + 1 ≤ (x.length : Int)) := by omega
      simp only [h1, decide_false, cond_false, e1]
      by_cases c2 : i = y.length
      · have e2 : y.reverse.drop i = [] := List.drop_eq_nil_of_le (by simp; omega)
        have h2 : ¬ ((x.length : Int) < (y.length : Int)) := by omega
        simp [e2, lexN, h2]
      · have hlt : i < y.reverse.length := by simp; omega
        rw [List.drop_eq_getElem_cons hlt]
        have h2 : ((x.length : Int) < (y.length : Int)) := by omega
        simp [lexN, h2]
    · have h1 : ((i : Int) + 1 ≤ (x.length : Int)) := by omega
      have hltx : i < x.reverse.length := by simp; omega
      simp only [h1, decide_true, cond_true]
      by_cases c2 : i = y.length
      · have h2 : ¬ ((i : Int) + 1 ≤ (y.length : Int)) := by omega
        have e2 : y.reverse.drop i = [] := List.drop_eq_nil_of_le (by simp; omega)
        have h3 : ¬ ((x.length : Int) < (y.length : Int)) := by omega
        have e3 : ∀ l : List ByteArray, lexN l [] = false := fun l => by cases l <;> rfl
        simp [h2, e2, h3, e3]
      · have h2 : ((i : Int) + 1 ≤ (y.length : Int)) := by omega
        have hlty : i < y.reverse.length := by simp; omega
        have ix : idx x ((x.length : Int) - ((i : Int) + 1)) = some x.reverse[i] := by
          rw [show (x.length : Int) - ((i : Int) + 1) = (x.length : Int) - ((i + 1 : Nat) : Int) by omega, idx_sub (by omega), List.getElem?_eq_getElem (by omega), List.getElem_reverse]
          congr 1; congr 1; omega
        have iy : idx y ((y.length : Int) - ((i : Int) + 1)) = some y.reverse[i] := by
          rw [show (y.length : Int) - ((i : Int) + 1) = (y.length : Int) - ((i + 1 : Nat) : Int) by omega, idx_sub (by omega), List.getElem?_eq_getElem (by omega), List.getElem_reverse]
          congr 1; congr 1; omega
        simp only [h2, decide_true, cond_true, ix, iy, bnd1_mk]
        rw [grd_pos (by simp only [i64]; omega), grd_pos (by simp only [i64]; omega), List.drop_eq_getElem_cons hltx, List.drop_eq_getElem_cons hlty, lexN, bl_eq]
        by_cases ce : x.reverse[i] = y.reverse[i]
        · have ih := IH (k - 1) (i + 1) (by omega) (by omega) (by omega) (by omega)
          have e9 : (i : Int) + 1 + 1 = ((i + 1 : Nat) : Int) + 1 := by omega
          have g9 : i64 ((i : Int) + 1 + 1) := by constructor <;> omega
          simp only [ce, decide_true, Bool.not_true, cond_false, if_true, grd_pos g9]
          rw [e9]; exact ih
        · simp only [ce, decide_false, Bool.not_false, cond_true, if_false]

theorem s_LessName_eq {a b : ByteArray} (ha : a.size ≤ 1048576) (hb : b.size ≤ 1048576) : s_LessName a b = some (lessN a b) := by
  have h1 := labels_len a
  have h2 := labels_len b
  unfold s_LessName
  rw [s_Labels_eq ha, bnd1_mk, s_Labels_eq hb, bnd1_mk]
  have := s_LessName_l1_eq (labels a) (labels b) (by omega) (by omega) fuel0 _ 0 rfl (Nat.zero_le _) (Nat.zero_le _) (by unfold fuel0; omega)
  unfold lessN
  simpa using this

def lx {α : Type} [DecidableEq α] (lt : α → α → Bool) (x y : α) (r : Bool) : Bool := if x = y then r else lt x y

def lti (a b : Int) : Bool := decide (a < b)

def lessR (a b : Rec) : Bool := lx lessN a.name b.name (lx lti a.ty b.ty (lx lti a.n b.n (lx lessN a.host b.host (lx bl a.text b.text (lti a.ttl b.ttl)))))

theorem s_LessRecord_eq {a b : Rec} (ha : a.sm) (hb : b.sm) : s_LessRecord a b = some (lessR a b) := by
  unfold s_LessRecord lessR lx lti
  rw [s_LessName_eq ha.1 hb.1, s_LessName_eq ha.2.1 hb.2.1, bl_eq]
  by_cases c1 : a.name = b.name <;> by_cases c2 : a.ty = b.ty <;> by_cases c3 : a.n = b.n <;> by_cases c4 : a.host = b.host <;> by_cases c5 : a.text = b.text <;> simp [c1, c2, c3, c4, c5]

theorem i_byName_eq {a b : ByteArray} (ha : a.size ≤ 1048576) (hb : b.size ≤ 1048576) : i_byName a b = some (bif decide (a = b) then 0 else (bif lessN a b then -1 else 1)) := by
  unfold i_byName
  rw [i_LessName_eq ha hb, bnd1_mk, i_LessName_eq hb ha, bnd1_mk]
  by_cases c : a = b
  · subst c; simp [lessN_irr]
  · rcases lessN_tot a b c with h | h
    · simp [c, h]
    · cases hh : lessN a b with
      | true => have := lessN_trans a b a hh h; rw [lessN_irr] at this; cases this
      | false => simp [c, h]

theorem cmp_Compare_int_eq {a b : Int} : cmp_Compare_int a b = some (bif decide (a = b) then 0 else (bif lti a b then -1 else 1)) := by
  unfold cmp_Compare_int cmp_isNaN_int lti
  by_cases c : a = b
  · subst c; simp
  · by_cases c1 : a < b
    · simp [c, c1]
    · have : b < a := by omega
      simp [c, c1, this]

theorem cmp_Compare_string_eq' {a b : ByteArray} : cmp_Compare_string a b = some (bif decide (a = b) then 0 else (bif bl a b then -1 else 1)) := by
  rw [cmp_Compare_string_eq]
  by_cases c : a = b
  · subst c; simp [bl_irr]
  · simp [c]

/-- The first that is not 0 decides. -/
theorem or_step {x : Int} {l : List Int} {i : Nat} {c : Int} (h : cmp_Or_int_l0 l (i + 1) = some c) : cmp_Or_int_l0 (x :: l) i = some (bif decide (x = 0) then c else x) := by
  rw [cmp_Or_int_l0, h]; by_cases c0 : x = 0 <;> simp [c0]

def lt (a b : Rec) : Prop := lessR a b = true

theorem name_or {a b : Rec} (h : lt a b) : a.name = b.name ∨ lessN a.name b.name = true := by
  unfold lt lessR lx at h
  by_cases c : a.name = b.name
  · exact .inl c
  · rw [if_neg c] at h; exact .inr h

theorem between {a b c : Rec} (h : lt a b) (k : lt b c) (e : a.name = c.name) (e' : a.ty = c.ty) : b.name = a.name ∧ b.ty = a.ty := by
  have h1 : a.name = b.name := by
    rcases name_or h with h1 | h1
    · exact h1
    · rcases name_or k with h2 | h2
      · rw [e, h2, lessN_irr] at h1; cases h1
      · have := lessN_trans _ _ _ h1 h2
        rw [e, lessN_irr] at this; cases this
  refine ⟨h1.symm, ?_⟩
  unfold lt lessR lx at h k
  rw [if_pos h1] at h
  rw [if_pos (h1.symm.trans e)] at k
  by_cases c1 : a.ty = b.ty
  · exact c1.symm
  · rw [if_neg c1] at h
    by_cases c2 : b.ty = c.ty
    · exact c2.trans e'.symm
    · rw [if_neg c2] at k
      simp only [lti, decide_eq_true_eq] at h k; omega

theorem w_big_eq {p : List Int} : w_big p = some (decide (1048576 < (p.length : Int))) := rfl

theorem s_SortRecords_j1_eq {v : List Rec} {i : Nat} {e : Rec} {K : List Rec → Nat → Option (List Rec)} {j : Nat} (hj : j ≤ v.length) (hv : v.length ≤ 1000) : s_SortRecords_j1 v i e K (j : Int) = K ((v.take j ++ [e]) ++ v.drop j) (i + 1) := by
  have e1 : (v.drop (0 + ((0 : Nat) : Int).toNat)).take ((j : Int).toNat - ((0 : Nat) : Int).toNat) = v.take j := by simp
  have e2 : (v.drop (0 + (j : Int).toNat)).take ((v.length : Int).toNat - (j : Int).toNat) = v.drop j := by
    rw [Int.toNat_natCast, Int.toNat_natCast, Nat.zero_add]; exact List.take_of_length_le (by simp)
  have l1 : (v.take j).length = j := by rw [List.length_take]; omega
  have l2 : (v.drop j).length = v.length - j := List.length_drop
  unfold s_SortRecords_j1
  rw [e1, e2, List.nil_append, grd_pos (by omega), grd_pos (by omega), grd_pos (by simp only [List.length_append, List.length_singleton]; omega), grd_pos (by omega), grd_pos (by simp only [List.length_append, List.length_singleton]; omega)]

theorem s_SortRecords_l2_p {v : List Rec} {i : Nat} {e : Rec} {K : List Rec → Nat → Option (List Rec)} (hv : v.length ≤ 1000) (hs : ∀ r, r ∈ v → r.sm) (he : e.sm) : ∀ (k fl : Nat), k ≤ v.length → k < fl → ∃ j, j ≤ v.length ∧ s_SortRecords_l2 v i e K fl (k : Int) = K ((v.take j ++ [e]) ++ v.drop j) (i + 1)
  | 0, fl, hk, hf => by
    obtain ⟨fl, rfl⟩ : ∃ q, fl = q + 1 := ⟨fl - 1, by omega⟩
    refine ⟨0, by omega, ?_⟩
    rw [s_SortRecords_l2]
    unfold s_SortRecords_j3
    exact s_SortRecords_j1_eq (j := 0) (by omega) hv
  | k + 1, fl, hk, hf => by
    obtain ⟨fl, rfl⟩ : ∃ q, fl = q + 1 := ⟨fl - 1, by omega⟩
    have c1 : (0 : Int) < ((k + 1 : Nat) : Int) := by omega
    have e9 : ((k + 1 : Nat) : Int) - 1 = (k : Int) := by omega
    obtain ⟨x, e1, hx⟩ := idx_ok (l := v) (i := (k : Int)) (by omega) (by omega)
    rw [s_SortRecords_l2, decide_eq_true c1, cond_true, e9, grd_pos (by simp only [i64]; omega), e1, bnd1_mk, s_LessRecord_eq he (hs x hx), bnd1_mk]
    unfold s_SortRecords_j3
    cases lessR e x with
    | true =>
      obtain ⟨j, h1, h2⟩ := s_SortRecords_l2_p (i := i) (K := K) hv hs he k fl (by omega) (by omega)
      refine ⟨j, h1, ?_⟩
      rw [cond_true, e9, grd_pos (by simp only [i64]; omega)]
      exact h2
    | false => exact ⟨k + 1, hk, s_SortRecords_j1_eq hk hv⟩

theorem s_SortRecords_l0_p : ∀ (l v : List Rec) (i : Nat), (∀ r, r ∈ v → r.sm) → (∀ r, r ∈ l → r.sm) → v.length + l.length ≤ 1000 → ∃ m, s_SortRecords_l0 l v i = some m ∧ m.length = v.length + l.length ∧ ∀ r, r ∈ m → r ∈ v ∨ r ∈ l
  | [], v, i, _, _, _ => ⟨v, rfl, rfl, fun r hr => .inl hr⟩
  | e :: l, v, i, hv, hl, hn => by
    simp only [List.length_cons] at hn
    obtain ⟨j, h1, h2⟩ := s_SortRecords_l2_p (i := i) (K := s_SortRecords_l0 l) (by omega) hv (hl e (.head _)) v.length fuel0 (Nat.le_refl _) (fuel_lt (by omega))
    have hm : ∀ r, r ∈ (v.take j ++ [e]) ++ v.drop j → r ∈ v ∨ r = e := fun r hr => by
      rcases List.mem_append.1 hr with hr | hr
      · rcases List.mem_append.1 hr with hr | hr
        · exact .inl (List.mem_of_mem_take hr)
        · exact .inr (List.mem_singleton.1 hr)
      · exact .inl (List.mem_of_mem_drop hr)
    have hlen : ((v.take j ++ [e]) ++ v.drop j).length = v.length + 1 := by
      simp only [List.length_append, List.length_singleton, List.length_take, List.length_drop]; omega
    obtain ⟨m, g1, g2, g3⟩ := s_SortRecords_l0_p l ((v.take j ++ [e]) ++ v.drop j) (i + 1) (fun r hr => by
      rcases hm r hr with h | rfl
      · exact hv r h
      · exact hl r (.head _)) (fun r hr => hl r (.tail _ hr)) (by omega)
    refine ⟨m, by rw [s_SortRecords_l0, h2]; exact g1, by rw [g2, hlen, List.length_cons]; omega, fun r hr => ?_⟩
    rcases g3 r hr with h | h
    · rcases hm r h with h | rfl
      · exact .inl h
      · exact .inr (.head _)
    · exact .inr (.tail _ h)

theorem s_SortRecords_p {l : List Rec} (hl : l.length ≤ 1000) (hs : ∀ r, r ∈ l → r.sm) : ∃ m, s_SortRecords l = some m ∧ m.length = l.length ∧ ∀ r, r ∈ m → r ∈ l := by
  obtain ⟨m, h1, h2, h3⟩ := s_SortRecords_l0_p l [] 0 (fun r hr => by cases hr) hs (by simpa using hl)
  refine ⟨m, h1, by simpa using h2, fun r hr => ?_⟩
  rcases h3 r hr with h | h
  · cases h
  · exact h

theorem w_sameStrs_l0_self : ∀ (t pre : List ByteArray), w_sameStrs_l0 (pre ++ t) t pre.length = some true
  | [], pre => rfl
  | s :: t, pre => by
    have := w_sameStrs_l0_self t (pre ++ [s])
    rw [show (pre ++ [s]).length = pre.length + 1 by simp, show pre ++ [s] ++ t = pre ++ s :: t by simp] at this
    rw [w_sameStrs_l0, idx_nat, get_app, bnd1_mk, decide_eq_true rfl, Bool.not_true, cond_false]
    exact this

theorem w_sameStrs_self {l : List ByteArray} : w_sameStrs l l = some true := by
  unfold w_sameStrs
  rw [decide_eq_true rfl, Bool.not_true, cond_false]
  exact w_sameStrs_l0_self l []

def addrP (s : ByteArray) (out : List Int) (r : Rec) : Bool := decide (r.ty = 1) && (decide (r.name = s) && !out.any fun x => decide (x = r.n))

def addrsL (s : ByteArray) : List Rec → List Int → List Int
  | [], out => out
  | r :: l, out => bif addrP s out r then addrsL s l (out ++ [r.n]) else addrsL s l out

theorem s_l9HasInt_l0_eq {n : Int} : ∀ (l : List Int) (i : Nat), s_l9HasInt_l0 n l i = some (l.any fun x => decide (x = n))
  | [], i => rfl
  | x :: l, i => by
    rw [s_l9HasInt_l0, List.any_cons, s_l9HasInt_l0_eq l]
    by_cases c : x = n <;> simp [c]

theorem s_l9HasInt_eq {n : Int} {l : List Int} : s_l9HasInt l n = some (l.any fun x => decide (x = n)) := s_l9HasInt_l0_eq l 0

theorem slices_Index_int_l0_eq {n : Int} : ∀ (l : List Int) (i : Nat), ∃ v, slices_Index_int_l0 n l i = some v ∧ decide (0 ≤ v) = l.any fun x => decide (x = n)
  | [], i => ⟨-1, rfl, rfl⟩
  | x :: l, i => by
    rw [slices_Index_int_l0, List.any_cons]
    obtain ⟨v, h1, h2⟩ := slices_Index_int_l0_eq (n := n) l (i + 1)
    by_cases c : n = x
    · exact ⟨i, by simp [c], by simp [c]⟩
    · have c2 : ¬ x = n := fun h => c h.symm
      exact ⟨v, by simp [c, h1], by rw [h2]; simp [c2]⟩

theorem slices_Contains_int_eq {n : Int} {l : List Int} : slices_Contains_int l n = some (l.any fun x => decide (x = n)) := by
  unfold slices_Contains_int slices_Index_int
  obtain ⟨v, h1, h2⟩ := slices_Index_int_l0_eq (n := n) l 0
  rw [h1, bnd1_mk, h2]

theorem s_Addrs_l0_eq {s : ByteArray} : ∀ (l : List Rec) (out : List Int) (i : Nat), out.length + l.length ≤ 1099511627776 → s_Addrs_l0 s l out i = some (addrsL s l out)
  | [], out, i, _ => rfl
  | r :: l, out, i, h => by
    simp only [List.length_cons] at h
    have h1 := s_Addrs_l0_eq (s := s) l (out ++ [r.n]) (i + 1) (by simp; omega)
    have h2 := s_Addrs_l0_eq (s := s) l out (i + 1) (by omega)
    rw [s_Addrs_l0, addrsL, s_l9HasInt_eq, bnd1_mk]
    unfold addrP s_Addrs_j1
    rw [grd_pos (by simp; omega), h1, h2]
    by_cases c1 : r.ty = 1
    · by_cases c2 : r.name = s
      · cases c3 : out.any (fun x => decide (x = r.n)) <;> simp [c1, c2, c3]
      · simp [c1, c2]
    · simp [c1]

theorem i_Addrs_l0_eq {s : ByteArray} : ∀ (l : List Rec) (out : List Int) (i : Nat), out.length + l.length ≤ 1099511627776 → i_Addrs_l0 s l out i = some (addrsL s l out)
  | [], out, i, _ => rfl
  | r :: l, out, i, h => by
    simp only [List.length_cons] at h
    have h1 := i_Addrs_l0_eq (s := s) l (out ++ [r.n]) (i + 1) (by simp; omega)
    have h2 := i_Addrs_l0_eq (s := s) l out (i + 1) (by omega)
    rw [i_Addrs_l0, addrsL, slices_Contains_int_eq, bnd1_mk]
    unfold addrP i_Addrs_j1
    rw [grd_pos (by simp; omega), h1, h2]
    by_cases c1 : r.ty = 1
    · by_cases c2 : r.name = s
      · cases c3 : out.any (fun x => decide (x = r.n)) <;> simp [c1, c2, c3]
      · simp [c1, c2]
    · simp [c1]

theorem str_bnd {α : Type} {c : Cur} {l : List ByteArray} {k : ByteArray → Cur → Option α} {P : α → Prop} (h : c.inv) (h1 : Nat.blt 0 l.length = true) (h2 : Nat.ble l.length 256 = true) (h3 : (l.all fun y => Nat.ble y.size 1048576) = true) (hk : ∀ x d, d.inv → x.size ≤ 1048576 → ∃ r, k x d = some r ∧ P r) : ∃ r, bnd2 (s_l1Str c l) k = some r ∧ P r := by
  obtain ⟨x, d, e, hd, hm⟩ := s_l1Str_p h (by simpa [Nat.blt_eq] using h1) (Nat.le_of_ble_eq_true h2)
  rw [e, bnd2_mk]
  exact hk x d hd (small_of h3 hm)

theorem below_bnd {α : Type} {c : Cur} {n : Int} {k : Int → Cur → Option α} {P : α → Prop} (h : c.inv) (h1 : 0 < n) (h2 : n ≤ 256) (hk : ∀ x d, d.inv → 0 ≤ x → x < n → ∃ r, k x d = some r ∧ P r) : ∃ r, bnd2 (s_l1Below c n) k = some r ∧ P r := by
  obtain ⟨x, d, e, hd, h3, h4⟩ := s_l1Below_p h h1 h2
  rw [e, bnd2_mk]
  exact hk x d hd h3 h4

theorem once_bnd {α : Type} {c : Cur} {n : Int} {k : Bool → Cur → Option α} {P : α → Prop} (h : c.inv) (h1 : 0 < n) (h2 : n ≤ 256) (hk : ∀ x d, d.inv → ∃ r, k x d = some r ∧ P r) : ∃ r, bnd2 (s_l1Once c n) k = some r ∧ P r := by
  obtain ⟨x, d, e, hd⟩ := s_l1Once_p h h1 h2
  rw [e, bnd2_mk]
  exact hk x d hd

theorem rec_bnd {α : Type} {c : Cur} {k : Rec → Cur → Option α} {P : α → Prop} (h : c.inv) (hk : ∀ x d, d.inv → x.sm → ∃ r, k x d = some r ∧ P r) : ∃ r, bnd2 (s_l5Draw c) k = some r ∧ P r := by
  obtain ⟨x, d, e, hd, hx⟩ := s_l5Draw_p h
  rw [e, bnd2_mk]
  exact hk x d hd hx

theorem bif_p {α : Type} {b : Bool} {x y : Option α} {P : α → Prop} (h1 : b = true → ∃ r, x = some r ∧ P r) (h2 : b = false → ∃ r, y = some r ∧ P r) : ∃ r, (bif b then x else y) = some r ∧ P r := by
  cases b with
  | true => exact h1 rfl
  | false => exact h2 rfl

/-- Small records, not many. -/
def sl (l : List Rec) (n : Nat) : Prop := l.length ≤ n ∧ ∀ r, r ∈ l → r.sm

theorem sl_app {a b : List Rec} {m n : Nat} (h : sl a m) (k : sl b n) : sl (a ++ b) (m + n) := ⟨by have := h.1; have := k.1; simp; omega, fun q hq => by
  rcases List.mem_append.1 hq with hq | hq
  · exact h.2 q hq
  · exact k.2 q hq⟩

theorem sl_one {r : Rec} (h : r.sm) : sl [r] 1 := ⟨by simp, fun q hq => by rw [List.mem_singleton] at hq; rw [hq]; exact h⟩

theorem sl_le {a : List Rec} {m n : Nat} (h : sl a m) (hn : m ≤ n) : sl a n := ⟨Nat.le_trans h.1 hn, h.2⟩

theorem sl_g {a b : List Rec} {m n : Nat} (h : sl a m) (k : sl b n) (hn : m + n ≤ 1000) : (a ++ b).length ≤ 1099511627776 := by have := (sl_app h k).1; omega

theorem s_l5List_l0_p : ∀ (k fl : Nat) (c : Cur) (l : List Rec) (n : Nat), c.inv → k < fl → sl l n → n + k ≤ 1000 → ∃ r, s_l5List_l0 fl c.b c.i c.h l (k : Int) = some r ∧ r.2.inv ∧ sl r.1 (n + k)
  | 0, fl, c, l, n, h, hf, hl, hn => by
    obtain ⟨fl, rfl⟩ : ∃ q, fl = q + 1 := ⟨fl - 1, by omega⟩
    rw [s_l5List_l0]
    exact ⟨_, rfl, h, hl⟩
  | k + 1, fl, c, l, n, h, hf, hl, hn => by
    obtain ⟨fl, rfl⟩ : ∃ q, fl = q + 1 := ⟨fl - 1, by omega⟩
    have e : ((k + 1 : Nat) : Int) - 1 = (k : Int) := by omega
    rw [s_l5List_l0, decide_eq_true (by omega), cond_true, show Cur.mk c.b c.i c.h = c from rfl]
    refine rec_bnd h fun x d hd hx => ?_
    rw [grd_pos (sl_g hl (sl_one hx) (by omega)), grd_pos (by simp only [i64]; omega), e]
    have := s_l5List_l0_p k fl d (l ++ [x]) (n + 1) hd (by omega) (sl_app hl (sl_one hx)) (by omega)
    rw [show n + (k + 1) = n + 1 + k by omega]
    exact this

theorem s_l5List_p {c : Cur} {n : Nat} (h : c.inv) (hn : n ≤ 100) : ∃ r, s_l5List c (n : Int) = some r ∧ r.2.inv ∧ sl r.1 n := by
  unfold s_l5List
  rw [grd_pos (by simp only [i64]; omega)]
  refine below_bnd h (by omega) (by omega) fun x d hd h0 h1 => ?_
  obtain ⟨k, rfl⟩ : ∃ k : Nat, x = (k : Int) := ⟨x.toNat, by omega⟩
  obtain ⟨r, g1, g2, g3⟩ := s_l5List_l0_p k fuel0 d [] 0 hd (fuel_lt (by omega)) ⟨Nat.le_refl _, fun r hr => by cases hr⟩ (by omega)
  exact ⟨r, g1, g2, sl_le g3 (by omega)⟩

theorem list_bnd {α : Type} {c : Cur} {n : Nat} {k : List Rec → Cur → Option α} {P : α → Prop} (h : c.inv) (hn : n ≤ 100) (hk : ∀ x d, d.inv → sl x n → ∃ r, k x d = some r ∧ P r) : ∃ r, bnd2 (s_l5List c (n : Int)) k = some r ∧ P r := by
  obtain ⟨⟨x, d⟩, e, hd, hx⟩ := s_l5List_p h hn
  rw [e, bnd2_mk]
  exact hk x d hd hx

theorem i_byRecord_p {a b : Rec} (ha : a.sm) (hb : b.sm) : ∃ v, i_byRecord a b = some v := by
  unfold i_byRecord cmp_Or_int
  rw [i_byName_eq ha.1 hb.1, bnd1_mk, cmp_Compare_int_eq, bnd1_mk, cmp_Compare_int_eq, bnd1_mk, i_byName_eq ha.2.1 hb.2.1, bnd1_mk, cmp_Compare_string_eq', bnd1_mk, cmp_Compare_int_eq, bnd1_mk]
  rw [or_step (or_step (or_step (or_step (or_step (or_step (c := 0) rfl))))), bnd1_mk]
  exact ⟨_, rfl⟩

theorem isort_l1 {g : Rec → Rec → Option Int} (hg : ∀ a b : Rec, a.sm → b.sm → ∃ v, g a b = some v) {v : Int} (hv : i64 (v + 1)) {K : List Rec → Int → Option (List Rec)} : ∀ (j fl : Nat) (l : List Rec), j < l.length → l.length ≤ 1000 → j < fl → (∀ r, r ∈ l → r.sm) → ∃ m, m.Perm l ∧ slices_insertionSortCmpFunc_Record_l1 0 g v K fl l (j : Int) = K m (v + 1)
  | 0, fl, l, hj, hl, hf, hs => by
    obtain ⟨fl, rfl⟩ : ∃ q, fl = q + 1 := ⟨fl - 1, by omega⟩
    refine ⟨l, List.Perm.refl _, ?_⟩
    rw [slices_insertionSortCmpFunc_Record_l1, decide_eq_false (by omega), cond_false]
    unfold slices_insertionSortCmpFunc_Record_j2
    rw [cond_false, grd_pos hv]
  | j + 1, fl, l, hj, hl, hf, hs => by
    obtain ⟨fl, rfl⟩ : ∃ q, fl = q + 1 := ⟨fl - 1, by omega⟩
    have e9 : ((j + 1 : Nat) : Int) - 1 = (j : Int) := by omega
    have x1 : l[j + 1]? = some l[j + 1] := List.getElem?_eq_getElem hj
    have x0 : l[j]? = some (l[j]'(by omega)) := List.getElem?_eq_getElem (by omega)
    obtain ⟨w, hw⟩ := hg l[j + 1] (l[j]'(by omega)) (hs _ (List.getElem_mem hj)) (hs _ (List.getElem_mem (by omega)))
    rw [slices_insertionSortCmpFunc_Record_l1, decide_eq_true (by omega), cond_true, idx_nat, x1, bnd1_mk, e9, grd_pos (by simp only [i64]; omega), idx_nat, x0, bnd1_mk, hw, bnd1_mk]
    unfold slices_insertionSortCmpFunc_Record_j2
    cases decide (w < 0) with
    | false => exact ⟨l, List.Perm.refl _, by rw [cond_false, grd_pos hv]⟩
    | true =>
      have x2 : (l.set (j + 1) (l[j]'(by omega)))[j]? = some (l[j]'(by omega)) := by rw [List.getElem?_set_ne (by omega), x0]
      rw [cond_true, e9, grd_pos (by simp only [i64]; omega), grd_pos (by simp only [i64]; omega), idx_nat, x0, bnd1_mk, idx_nat, x1, bnd1_mk, Int.toNat_natCast, idx_nat, x2, bnd1_mk, grd_pos (by simp only [i64]; omega), Int.toNat_natCast]
      have hp : ((l.set (j + 1) (l[j]'(by omega))).set j l[j + 1]).Perm l := List.set_set_perm hj (by omega)
      obtain ⟨m, h1, h2⟩ := isort_l1 hg hv (K := K) j fl ((l.set (j + 1) (l[j]'(by omega))).set j l[j + 1]) (by simp only [List.length_set]; omega) (by simp only [List.length_set]; omega) (by omega) (fun r hr => hs r (hp.mem_iff.1 hr))
      exact ⟨m, h1.trans hp, h2⟩

theorem isort_l0 {g : Rec → Rec → Option Int} (hg : ∀ a b : Rec, a.sm → b.sm → ∃ v, g a b = some v) : ∀ (k fl : Nat) (l : List Rec) (i : Nat), i + k = l.length → l.length ≤ 1000 → k < fl → (∀ r, r ∈ l → r.sm) → ∃ m, m.Perm l ∧ slices_insertionSortCmpFunc_Record_l0 0 (l.length : Int) g fl l (i : Int) = some m
  | 0, fl, l, i, hi, hl, hf, hs => by
    obtain ⟨fl, rfl⟩ : ∃ q, fl = q + 1 := ⟨fl - 1, by omega⟩
    rw [slices_insertionSortCmpFunc_Record_l0, decide_eq_false (by omega), cond_false]
    exact ⟨l, List.Perm.refl _, rfl⟩
  | k + 1, fl, l, i, hi, hl, hf, hs => by
    obtain ⟨fl, rfl⟩ : ∃ q, fl = q + 1 := ⟨fl - 1, by omega⟩
    obtain ⟨m, h1, h2⟩ := isort_l1 hg (v := (i : Int)) (K := slices_insertionSortCmpFunc_Record_l0 0 (l.length : Int) g fl) (by simp only [i64]; omega) i fuel0 l (by omega) hl (fuel_lt (by omega)) hs
    rw [slices_insertionSortCmpFunc_Record_l0, decide_eq_true (by omega), cond_true, h2]
    have e : (i : Int) + 1 = ((i + 1 : Nat) : Int) := by omega
    obtain ⟨m2, h3, h4⟩ := isort_l0 hg k fl m (i + 1) (by rw [h1.length_eq]; omega) (by rw [h1.length_eq]; exact hl) (by omega) (fun r hr => hs r (h1.mem_iff.1 hr))
    rw [h1.length_eq] at h4
    rw [e]
    exact ⟨m2, h3.trans h1, h4⟩

theorem i_SortRecords_p {l : List Rec} (hl : l.length ≤ 19) (hs : ∀ r, r ∈ l → r.sm) : ∃ m, m.Perm l ∧ i_SortRecords l = some m := by
  have hg : ∀ a b : Rec, a.sm → b.sm → ∃ v, (fun a0 a1 => i_byRecord a0 a1) a b = some v := fun a b ha hb => i_byRecord_p ha hb
  have hi : ∃ m, m.Perm l ∧ slices_insertionSortCmpFunc_Record l 0 (l.length : Int) (fun a0 a1 => i_byRecord a0 a1) = some m := by
    unfold slices_insertionSortCmpFunc_Record
    rw [grd_pos (by simp only [i64]; omega)]
    cases l with
    | nil => exact ⟨[], List.Perm.refl _, by unfold fuel0; rw [slices_insertionSortCmpFunc_Record_l0, decide_eq_false (by simp), cond_false]⟩
    | cons x t => exact isort_l0 hg t.length fuel0 (x :: t) 1 (by simp; omega) (by omega) (fuel_lt (by simp only [List.length_cons] at hl; omega)) hs
  obtain ⟨m, h1, h2⟩ := hi
  have hm : m.length = l.length := h1.length_eq
  refine ⟨m, h1, ?_⟩
  unfold i_SortRecords slices_SortStableFunc_Record slices_stableCmpFunc_Record
  rw [slices_Clone_Record_eq (by omega), bnd1_mk]
  have e1 : slices_stableCmpFunc_Record_l1 (l.length : Int) (fun a0 a1 => i_byRecord a0 a1) fuel0 l 0 20 = some m := by
    unfold fuel0
    rw [slices_stableCmpFunc_Record_l1, decide_eq_false (by omega), cond_false]
    unfold slices_stableCmpFunc_Record_j0
    rw [h2, bnd1_mk, grd_pos hm]
    unfold fuel0
    rw [slices_stableCmpFunc_Record_l2, decide_eq_false (by omega), cond_false]
  rw [e1, bnd1_mk, grd_pos hm, bnd1_mk, grd_pos hm]

theorem within_of {a b : List Rec} (h : ∀ r, r ∈ a → ∃ x, x ∈ b ∧ zt x = zt r) : within a b = true := by
  unfold within
  rw [List.all_eq_true]
  intro r hr
  obtain ⟨x, hx, e⟩ := h r hr
  exact List.any_eq_true.2 ⟨x, hx, decide_eq_true e⟩

theorem w_sameInts_l0_self : ∀ (t pre : List Int), w_sameInts_l0 (pre ++ t) t pre.length = some true
  | [], pre => rfl
  | x :: t, pre => by
    have := w_sameInts_l0_self t (pre ++ [x])
    simp only [List.length_append, List.length_singleton, List.append_assoc, List.singleton_append] at this
    rw [w_sameInts_l0, idx_nat, get_app, bnd1_mk, this]
    simp

theorem w_sameInts_self {l : List Int} : w_sameInts l l = some true := by
  have := w_sameInts_l0_self l []
  unfold w_sameInts
  simpa using this

theorem s_l9Near_q {c : Cur} (h : c.inv) : ∃ m d, s_l9Near c = some (m, d) ∧ d.inv ∧ m.length ≤ 6 ∧ ∀ r, r ∈ m → r.sm := by
  obtain ⟨n, d, e, hd, h0, h1⟩ := s_l1Below_p (n := 6) h (by omega) (by omega)
  obtain ⟨k, rfl⟩ : ∃ k : Nat, n = (k : Int) := ⟨n.toNat, by omega⟩
  obtain ⟨m, q, g1, g2, g3, g4⟩ := s_l9Near_l0_p k fuel0 d [] hd (fuel_lt (by omega)) (fun r hr => by cases hr) (by simp; omega)
  unfold s_l9Near
  rw [e, bnd2_mk]
  exact ⟨m, q, g1, g2, by simp at g3; omega, g4⟩

theorem near_bnd {α : Type} {c : Cur} {k : List Rec → Cur → Option α} {P : α → Prop} (h : c.inv) (hk : ∀ x d, d.inv → x.length ≤ 6 → (∀ r, r ∈ x → r.sm) → ∃ r, k x d = some r ∧ P r) : ∃ r, bnd2 (s_l9Near c) k = some r ∧ P r := by
  obtain ⟨x, d, e, hd, h1, h2⟩ := s_l9Near_q h
  rw [e, bnd2_mk]
  exact hk x d hd h1 h2

theorem s_DrawSameData_p {p : List Int} (hp : p.length ≤ 1048576) : ∃ r, s_DrawSameData p = some r ∧ (r.1.length ≤ 6 ∧ ∀ x, x ∈ r.1 → x.sm) ∧ (r.2.length ≤ 6 ∧ ∀ x, x ∈ r.2 → x.sm) := by
  obtain ⟨c, e, hc⟩ := s_l1New_p hp
  unfold s_DrawSameData
  rw [e, bnd1_mk]
  refine near_bnd hc fun a d hd ha hs => once_bnd hd (by omega) (by omega) fun o d hd => bif_p (fun _ => ?_) fun _ => near_bnd hd fun b d hd hb hs2 => ⟨_, rfl, ⟨ha, hs⟩, hb, hs2⟩
  obtain ⟨m, g1, g2, g3⟩ := s_SortRecords_p (l := a) (by omega) hs
  rw [g1, bnd1_mk]
  refine below_bnd hd (by omega) (by omega) fun k d hd _ _ => ?_
  rw [s_WithTtl_eq (by omega), bnd1_mk]
  have hm : (m.map (setTtl k)).length ≤ 6 ∧ ∀ x, x ∈ m.map (setTtl k) → x.sm := ⟨by rw [List.length_map]; omega, fun x hx => by
    obtain ⟨y, hy, rfl⟩ := List.mem_map.1 hx
    have := hs y (g3 y hy)
    exact ⟨this.1, this.2.1, this.2.2⟩⟩
  generalize m.map (setTtl k) = b at hm
  have hj : ∀ o : Bool, (o = true → 0 < b.length) → ∃ r, s_DrawSameData_j0 a b o = some r ∧ (r.1.length ≤ 6 ∧ ∀ x, x ∈ r.1 → x.sm) ∧ (r.2.length ≤ 6 ∧ ∀ x, x ∈ r.2 → x.sm) := fun o ho => by
    unfold s_DrawSameData_j0
    cases o with
    | false => exact ⟨_, rfl, ⟨ha, hs⟩, hm⟩
    | true =>
      have := ho rfl
      rw [cond_true, grd_pos (by omega)]
      exact ⟨_, rfl, ⟨ha, hs⟩, by
        have h1 := List.length_take_le ((b.length : Int).toNat - (1 : Int).toNat) (b.drop (0 + (1 : Int).toNat))
        have h2 : (b.drop (0 + (1 : Int).toNat)).length = b.length - (0 + (1 : Int).toNat) := List.length_drop
        show ((b.drop (0 + (1 : Int).toNat)).take ((b.length : Int).toNat - (1 : Int).toNat)).length ≤ 6
        rw [List.length_take]; omega, fun x hx => hm.2 x (List.mem_of_mem_drop (List.mem_of_mem_take hx))⟩
  refine bif_p (fun h => once_bnd hd (by omega) (by omega) fun o d hd => hj o fun _ => ?_) fun _ => hj false (by simp)
  have := of_decide_eq_true h
  omega

theorem within_nil {b : List Rec} (h : within b [] = true) : b = [] := by
  cases b with
  | nil => rfl
  | cons x t => unfold within at h; simp at h

theorem law_FnDataSame {p : List Int} (hp : p.length ≤ 9223372036854775807 ∧ ∀ q, q ∈ p → 0 ≤ q ∧ q < 256) : w_FnDataSame p = some true := by
  unfold w_FnDataSame
  rw [w_big_eq, bnd1_mk]
  by_cases hb : 1048576 < (p.length : Int)
  · rw [decide_eq_true hb]; rfl
  rw [decide_eq_false hb, cond_false]
  obtain ⟨⟨a, b⟩, e1, ⟨a1, a2⟩, b1, b2⟩ := s_DrawSameData_p (p := p) (by omega)
  replace a1 : a.length ≤ 6 := a1
  replace b1 : b.length ≤ 6 := b1
  have hH : ∃ r, s_DrawHosts p = some r ∧ smL r := by
    obtain ⟨c, e, hc⟩ := s_l1New_p (b := p) (by omega)
    unfold s_DrawHosts
    rw [e, bnd1_mk]
    exact list_bnd (n := 6) hc (by omega) fun x d hd hx => ⟨_, rfl, by have := hx.1; omega, hx.2⟩
  have hA : ∃ r, s_DrawAddrs p = some r ∧ r.1.length ≤ 6 := by
    obtain ⟨c, e, hc⟩ := s_l1New_p (b := p) (by omega)
    unfold s_DrawAddrs
    rw [e, bnd1_mk]
    exact near_bnd hc fun x d hd hx _ => str_bnd hd rfl rfl rfl fun s d hd hs => ⟨_, rfl, hx⟩
  obtain ⟨h, e2, hh⟩ := hH
  obtain ⟨⟨l, s⟩, e3, hl⟩ := hA
  replace hl : l.length ≤ 6 := hl
  obtain ⟨m, m1, m2⟩ := i_SortRecords_p (l := a) (by omega) a2
  have hm : m.length = a.length := m1.length_eq
  have w1 : within a (m.map (setTtl 7)) = true := within_of fun r hr => ⟨setTtl 7 r, List.mem_map.2 ⟨r, m1.mem_iff.2 hr, rfl⟩, rfl⟩
  have w2 : within (m.map (setTtl 7)) a = true := within_of fun r hr => by
    obtain ⟨y, hy, rfl⟩ := List.mem_map.1 hr
    exact ⟨y, m1.mem_iff.1 hy, rfl⟩
  have hj : w_FnDataSame_j0 a b false = some true := by
    unfold w_FnDataSame_j0
    rw [cond_false, i_SameData_eq (by omega) (by omega), bnd1_mk, i_SameData_eq (by omega) (by omega), bnd1_mk, Bool.and_comm (within b a), beq_self_eq_true, cond_true, m2, bnd1_mk, i_WithTtl_eq (by omega), bnd1_mk, i_SameData_eq (by omega) (by rw [List.length_map]; omega), bnd1_mk, w1, w2, Bool.and_self, cond_true, bnd1_mk]
    cases hw : (within a b && within b a) with
    | false => rfl
    | true =>
      rw [Bool.not_true, cond_false]
      simp only [Bool.and_eq_true] at hw
      cases a with
      | nil =>
        have := within_nil hw.2
        subst this
        rfl
      | cons x t =>
        cases b with
        | nil => have := within_nil hw.1; cases this
        | cons y u =>
          rw [decide_eq_false (by simp only [List.length_cons]; omega), decide_eq_false (by simp only [List.length_cons]; omega)]; rfl
  rw [e1, bnd2_mk, e2, bnd1_mk, e3, bnd2_mk, i_SameData_eq (by omega) (by omega), bnd1_mk, s_SameData_eq, bnd1_mk, beq_self_eq_true, Bool.not_true, cond_false, i_Hosts_eq hh, bnd1_mk, s_Hosts_eq hh, bnd1_mk, w_sameStrs_self, bnd1_mk, Bool.not_true, cond_false]
  unfold i_Addrs s_Addrs
  rw [i_Addrs_l0_eq l [] 0 (by simp; omega), bnd1_mk, s_Addrs_l0_eq l [] 0 (by simp; omega), bnd1_mk, w_sameInts_self, bnd1_mk, Bool.not_true]
  exact hj
end Go.Abs.M
