/- The pure law of FactText: its pure function answers true. -/
import Derived.Test.YtbkmnbpgpklojaaDoorFnsFactText
set_option linter.unusedSimpArgs false
set_option linter.unusedVariables false
namespace Go.Abs.M
open Go Go.Abs
theorem idx_nat {α : Type} {l : List α} {n : Nat} : idx l (n : Int) = l[n]? := by simp [idx]

theorem w_toRecord_eq {r : Rec} : w_toRecord r = some r := rfl

theorem w_toRecordS_l0_eq : ∀ (t pre : List Rec) (z : List Rec), z.length = t.length → w_toRecordS_l0 t (pre ++ z) pre.length = some (pre ++ t)
  | [], pre, z, hz => by cases z with | nil => rfl | cons a b => simp at hz
  | r :: t, pre, z, hz => by
    cases z with
    | nil => simp at hz
    | cons a z =>
      rw [w_toRecordS_l0]
      have := w_toRecordS_l0_eq t (pre ++ [r]) z (by simpa using hz)
      simp only [w_toRecord_eq, bnd1_mk, idx_nat]
      simp [bnd1] at this ⊢
      simpa using this

theorem w_toRecordS_eq {l : List Rec} (h : l.length ≤ 1099511627776) : w_toRecordS l = some l := by
  unfold w_toRecordS
  rw [grd_pos (by omega)]
  have := w_toRecordS_l0_eq l [] (List.replicate l.length ⟨⟨#[]⟩, 0, 0, 0, ⟨#[]⟩, ⟨#[]⟩⟩) (by simp)
  simpa using this

theorem w_eqRecord_self {a : Rec} : w_eqRecord a a = some true := by unfold w_eqRecord; simp

theorem w_eqRecordS_l0_self : ∀ (t pre : List Rec), w_eqRecordS_l0 (pre ++ t) t pre.length = some true
  | [], pre => rfl
  | r :: t, pre => by
    rw [w_eqRecordS_l0]
    have := w_eqRecordS_l0_self t (pre ++ [r])
    simp only [idx_nat]
    simp [w_eqRecord_self] at this ⊢
    exact this

theorem w_eqRecordS_self {l : List Rec} : w_eqRecordS l l = some true := by
  unfold w_eqRecordS
  have := w_eqRecordS_l0_self l []
  simpa using this

def zrec : Rec := ⟨⟨#[]⟩, 0, 0, 0, ⟨#[]⟩, ⟨#[]⟩⟩

def first (p : Rec → Bool) (l : List Rec) : Rec := (l.find? p).getD zrec

def Rec.sm (r : Rec) : Prop := r.name.size ≤ 1048576 ∧ r.host.size ≤ 1048576 ∧ r.text.size ≤ 1048576

def smL (l : List Rec) : Prop := l.length ≤ 1048576 ∧ ∀ r, r ∈ l → r.sm

def okL (l : List Rec) : Prop := l.length ≤ 9223372036854775807 ∧ ∀ r, r ∈ l → r.ok

theorem w_szRecord_p {r : Rec} {n : Int} (hr : r.ok) (hn : 0 ≤ n ∧ n ≤ 1048576) : ∃ v, w_szRecord r n = some v ∧ v ≤ n ∧ (0 ≤ v → r.sm) := by
  obtain ⟨h1, -, -, -, h2, h3⟩ := hr
  unfold w_szRecord Rec.sm
  rw [grd_pos (by simp only [i64]; omega)]
  by_cases c1 : n - (r.name.size : Int) < 0
  · exact ⟨-1, by simp [c1], by omega, by omega⟩
  · simp only [c1, decide_false, cond_false]
    rw [grd_pos (by simp only [i64]; omega)]
    by_cases c2 : n - (r.name.size : Int) - (r.host.size : Int) < 0
    · exact ⟨-1, by simp [c2], by omega, by omega⟩
    · simp only [c2, decide_false, cond_false]
      rw [grd_pos (by simp only [i64]; omega)]
      by_cases c3 : n - (r.name.size : Int) - (r.host.size : Int) - (r.text.size : Int) < 0
      · exact ⟨-1, by simp [c3], by omega, by omega⟩
      · exact ⟨_, by simp only [c3, decide_false, cond_false]; rfl, by omega, by omega⟩

theorem w_szRecordS_l0_p : ∀ (l : List Rec) (n : Int) (i : Nat), (∀ r, r ∈ l → r.ok) → 0 ≤ n ∧ n ≤ 1048576 → ∃ v, w_szRecordS_l0 l n i = some v ∧ v ≤ n ∧ (0 ≤ v → ∀ r, r ∈ l → r.sm)
  | [], n, i, _, _ => ⟨n, rfl, Int.le_refl _, fun _ r hr => by cases hr⟩
  | r :: l, n, i, hr, hn => by
    obtain ⟨v, h1, h2, h2'⟩ := w_szRecord_p (hr r (.head _)) hn
    rw [w_szRecordS_l0, h1]
    by_cases c : v < 0
    · exact ⟨-1, by simp [c], by omega, by omega⟩
    · obtain ⟨w, h3, h4, h5⟩ := w_szRecordS_l0_p l v (i + 1) (fun q hq => hr q (.tail _ hq)) (by omega)
      exact ⟨w, by simp [c, h3], by omega, fun h q hq => by
        cases hq with
        | head => exact h2' (by omega)
        | tail _ hq => exact h5 h q hq⟩

theorem w_szRecordS_p {l : List Rec} {n : Int} (hl : okL l) (hn : 0 ≤ n ∧ n ≤ 1048576) : ∃ v, w_szRecordS l n = some v ∧ v ≤ n ∧ (0 ≤ v → smL l) := by
  obtain ⟨h0, hr⟩ := hl
  unfold w_szRecordS
  rw [grd_pos (by simp only [i64]; omega)]
  by_cases c : n - (l.length : Int) < 0
  · exact ⟨-1, by simp [c], by omega, by omega⟩
  · obtain ⟨v, h1, h2, h3⟩ := w_szRecordS_l0_p l (n - l.length) 0 hr (by omega)
    exact ⟨v, by simp [c, h1], by omega, fun h => ⟨by omega, h3 h⟩⟩

def mkB (l : List UInt8) : ByteArray := ⟨l.toArray⟩

def bts (s : ByteArray) : List UInt8 := s.data.toList

theorem bts_mkB (l : List UInt8) : bts (mkB l) = l := rfl

theorem mkB_bts (s : ByteArray) : mkB (bts s) = s := rfl

theorem bts_len (s : ByteArray) : (bts s).length = s.size := rfl

theorem bts_inj {a b : ByteArray} : bts a = bts b ↔ a = b := ⟨fun h => by rw [← mkB_bts a, ← mkB_bts b, h], fun h => by rw [h]⟩

theorem bts_nil_iff (s : ByteArray) : s = ⟨#[]⟩ ↔ bts s = [] := ⟨fun h => by subst h; rfl, fun h => bts_inj.1 (by rw [h]; rfl)⟩

theorem bts_extract (s : ByteArray) (a b : Nat) : bts (s.extract a b) = ((bts s).drop a).take (b - a) := by
  unfold bts
  rw [ByteArray.data_extract, Array.toList_extract, List.extract_eq_take_drop]

theorem extract_mkB (s : ByteArray) (a b : Nat) : s.extract a b = mkB (((bts s).drop a).take (b - a)) := by
  rw [← mkB_bts (s.extract a b), bts_extract]

theorem sidx_nat {s : ByteArray} {n : Nat} {b : UInt8} (h : (bts s)[n]? = some b) : sidx s (n : Int) = some (b.toNat : Int) := by
  obtain ⟨h1, h2⟩ := List.getElem?_eq_some_iff.1 h
  have h3 : n < s.size := h1
  unfold sidx
  rw [dif_pos ⟨by omega, by simpa using h3⟩]
  subst h2
  rfl

/-- The parts of bytes between the dots. -/
def segs : List UInt8 → List UInt8 → List (List UInt8)
  | cur, [] => [cur]
  | cur, b :: l => if b = 46 then cur :: segs [] l else segs (cur ++ [b]) l

def labels (s : ByteArray) : List ByteArray := if bts s = [] then [] else (segs [] (bts s)).map mkB

theorem segs_len : ∀ (l cur : List UInt8), (segs cur l).length ≤ l.length + 1
  | [], cur => by simp [segs]
  | b :: l, cur => by
    unfold segs
    split
    · have := segs_len l []; simp; omega
    · have := segs_len l (cur ++ [b]); simp; omega

theorem u8_eq46 (b : UInt8) : ((b.toNat : Int) = 46) ↔ b = 46 := by
  constructor
  · intro h
    have : b.toNat = 46 := by omega
    exact UInt8.toNat_inj.1 this
  · intro h; subst h; rfl

/-- The loop of the reference's Labels: from the place i on, the part having begun at the place f. -/
theorem s_Labels_l0_eq (s : ByteArray) (hs : s.size ≤ 1048576) (hne : s ≠ ⟨#[]⟩) : ∀ (k : Nat) (i f fl : Nat) (out : List ByteArray), s.size - i = k → f ≤ i → i ≤ s.size → out.length ≤ f → k + 1 < fl →
    s_Labels_l0 s fl out (f : Int) (i : Int) = some (out ++ (segs (((bts s).drop f).take (i - f)) ((bts s).drop i)).map mkB)
  | 0, i, f, fl, out, hk, hfi, hi, ho, hfl => by
    obtain ⟨fl, rfl⟩ : ∃ q, fl = q + 1 := ⟨fl - 1, by omega⟩
    obtain ⟨fl, rfl⟩ : ∃ q, fl = q + 1 := ⟨fl - 1, by omega⟩
    have hie : i = s.size := by omega
    rw [s_Labels_l0]
    have e1 : (bts s).drop i = [] := List.drop_eq_nil_of_le (by rw [bts_len]; omega)
    rw [e1]
    simp only [segs, List.map_cons, List.map_nil]
    have c1 : decide ((i : Int) ≤ (s.size : Int)) = true := by simpa using hi
    have c2 : (!decide (s = (⟨#[]⟩ : ByteArray))) = true := by simpa using hne
    rw [c1, c2, cond_true, s_Labels_j1, cond_true]
    have c3 : decide ((i : Int) = (s.size : Int)) = true := by simp [hie]
    rw [c3, cond_true, s_Labels_j2, cond_true, grd_pos (by omega), grd_pos (by simp; omega), grd_pos (by simp only [i64]; omega), grd_pos (by simp only [i64]; omega), s_Labels_l0]
    have c4 : decide ((i : Int) + 1 ≤ (s.size : Int)) = false := by simp; omega
    rw [c4, cond_false, s_Labels_j1, cond_false, extract_mkB]
    simp
  | k + 1, i, f, fl, out, hk, hfi, hi, ho, hfl => by
    obtain ⟨fl, rfl⟩ : ∃ q, fl = q + 1 := ⟨fl - 1, by omega⟩
    have hlt : i < (bts s).length := by rw [bts_len]; omega
    rw [s_Labels_l0]
    have c1 : decide ((i : Int) ≤ (s.size : Int)) = true := by simpa using hi
    have c2 : (!decide (s = (⟨#[]⟩ : ByteArray))) = true := by simpa using hne
    rw [c1, c2, cond_true, s_Labels_j1, cond_true]
    have c3 : decide ((i : Int) = (s.size : Int)) = false := by simp; omega
    have hb : (bts s)[i]? = some (bts s)[i] := List.getElem?_eq_getElem hlt
    rw [c3, cond_false, sidx_nat hb, bnd1_mk, List.drop_eq_getElem_cons hlt, segs]
    have e2 : ((i : Int) + 1) = ((i + 1 : Nat) : Int) := by omega
    by_cases c : (bts s)[i] = 46
    · rw [if_pos c]
      have c5 : decide ((((bts s)[i]).toNat : Int) = 46) = true := by simpa using (u8_eq46 _).2 c
      rw [c5, s_Labels_j2, cond_true, grd_pos (by omega), grd_pos (by simp; omega), grd_pos (by simp only [i64]; omega), grd_pos (by simp only [i64]; omega), e2,
        s_Labels_l0_eq s hs hne k (i + 1) (i + 1) fl _ (by omega) (by omega) (by omega) (by simp; omega) (by omega), extract_mkB]
      simp
    · rw [if_neg c]
      have c5 : decide ((((bts s)[i]).toNat : Int) = 46) = false := by
        have := fun h => c ((u8_eq46 _).1 h)
        simpa using this
      rw [c5, s_Labels_j2, cond_false, grd_pos (by simp only [i64]; omega), e2, s_Labels_l0_eq s hs hne k (i + 1) f fl _ (by omega) (by omega) (by omega) ho (by omega)]
      have e3 : ((bts s).drop f).take (i + 1 - f) = ((bts s).drop f).take (i - f) ++ [(bts s)[i]] := by
        rw [show i + 1 - f = (i - f) + 1 by omega, List.take_add_one]
        congr 1
        rw [List.getElem?_drop, show f + (i - f) = i by omega, hb]
        rfl
      rw [e3]

theorem s_Labels_eq {s : ByteArray} (hs : s.size ≤ 1048576) : s_Labels s = some (labels s) := by
  unfold s_Labels
  by_cases hne : s = ⟨#[]⟩
  · subst hne
    have : fuel0 = 4611686018427387903 + 1 := rfl
    rw [this, s_Labels_l0]
    rfl
  · have h := s_Labels_l0_eq s hs hne s.size 0 0 fuel0 [] (by omega) (by omega) (by omega) (by simp) (by unfold fuel0; omega)
    have e : bts s ≠ [] := fun h => hne ((bts_nil_iff s).2 h)
    simpa [labels, e] using h

theorem indexByte_none : ∀ {l : List UInt8}, Lib.indexByte l 46 = -1 → ∀ cur, segs cur l = [cur ++ l]
  | [], _, cur => by simp [segs]
  | b :: l, h, cur => by
    unfold Lib.indexByte at h
    by_cases c : b = 46
    · subst c; simp at h
    · have hb : (b == (46 : UInt8)) = false := by simpa using c
      rw [hb] at h
      simp only [Bool.false_eq_true, if_false] at h
      by_cases c' : Lib.indexByte l 46 = -1
      · rw [segs, if_neg c, indexByte_none c']; simp
      · have h1 := Lib.indexByte_ge l 46
        rw [if_neg (by simpa using c')] at h
        omega

theorem indexByte_some : ∀ {l : List UInt8} {k : Nat}, Lib.indexByte l 46 = (k : Int) → k < l.length ∧ ∀ cur, segs cur l = (cur ++ l.take k) :: segs [] (l.drop (k + 1))
  | [], k, h => by simp [Lib.indexByte] at h
  | b :: l, k, h => by
    unfold Lib.indexByte at h
    by_cases c : b = 46
    · subst c
      simp at h
      have : k = 0 := by omega
      subst this
      exact ⟨by simp, fun cur => by simp [segs]⟩
    · have hb : (b == (46 : UInt8)) = false := by simpa using c
      rw [hb] at h
      simp only [Bool.false_eq_true, if_false] at h
      have h1 := Lib.indexByte_ge l 46
      by_cases c' : Lib.indexByte l 46 = -1
      · rw [if_pos (by simpa using c')] at h; omega
      · rw [if_neg (by simpa using c')] at h
        obtain ⟨q, rfl⟩ : ∃ q, k = q + 1 := ⟨k - 1, by omega⟩
        obtain ⟨h2, h3⟩ := indexByte_some (l := l) (k := q) (by omega)
        exact ⟨by simp; omega, fun cur => by rw [segs, if_neg c, h3]; simp⟩

theorem count_segs : ∀ (l cur : List UInt8), (segs cur l).length = Lib.countByte l 46 + 1
  | [], cur => by simp [segs, Lib.countByte]
  | b :: l, cur => by
    unfold segs
    by_cases c : b = 46
    · subst c; rw [if_pos rfl, List.length_cons, count_segs l []]; simp [Lib.countByte]
    · rw [if_neg c, count_segs l]; simp [Lib.countByte, c]

theorem dotB : (⟨#[46]⟩ : ByteArray).size = 1 := rfl

theorem dot_sidx : sidx (⟨#[46]⟩ : ByteArray) 0 = some 46 := rfl

theorem strings_Index_dot {s : ByteArray} : strings_Index s ⟨#[46]⟩ = some (if s = ⟨#[46]⟩ then 0 else Lib.indexByte (bts s) 46) := by
  unfold strings_Index internal_stringslite_Index
  rw [dotB]
  by_cases c : s = ⟨#[46]⟩
  · subst c; simp [internal_stringslite_Index_j0]
  · have c' : ¬ ((⟨#[46]⟩ : ByteArray) = s) := fun h => c h.symm
    simp [internal_stringslite_Index_j0, c, c', dotB, dot_sidx, internal_stringslite_IndexByte]
    rfl

theorem strings_Index_dot' {s : ByteArray} : strings_Index s ⟨#[46]⟩ = some (Lib.indexByte (bts s) 46) := by
  rw [strings_Index_dot]
  by_cases c : s = ⟨#[46]⟩
  · subst c; rfl
  · rw [if_neg c]

theorem segs_pos (cur l : List UInt8) : 1 ≤ (segs cur l).length := by rw [count_segs]; omega

theorem idx_cases (l : List UInt8) : Lib.indexByte l 46 = -1 ∨ ∃ k : Nat, Lib.indexByte l 46 = (k : Int) := by
  have h := Lib.indexByte_ge l 46
  rcases Int.lt_or_le (Lib.indexByte l 46) 0 with h1 | h1
  · exact .inl (by omega)
  · exact .inr ⟨(Lib.indexByte l 46).toNat, by omega⟩

theorem genSplit_j1_eq {r : ByteArray} {a : List ByteArray} {i : Nat} (hi : i < a.length) (ha : a.length ≤ 1099511627776) : strings_genSplit_j1 r a (i : Int) = some (a.take i ++ [r]) := by
  unfold strings_genSplit_j1
  rw [idx_nat, List.getElem?_eq_getElem hi, bnd1_mk, grd_pos (by simp only [i64]; omega), grd_pos (by omega)]
  congr 1
  have e : ((i : Int) + 1).toNat - ((0 : Nat) : Int).toNat = i + 1 := by omega
  have e2 : (0 + ((0 : Nat) : Int).toNat) = 0 := by omega
  rw [e, e2, List.drop_zero, Int.toNat_natCast, List.take_add_one, List.take_set_of_le (Nat.le_refl i), List.getElem?_set_self hi]
  rfl

theorem genSplit_l2_eq (p0 : ByteArray) (j : Int) (n : Nat) (hj : (if (p0.size : Int) + 1 < j then (p0.size : Int) + 1 else j) - 1 = (n : Int)) : ∀ (k i fl : Nat) (r : ByteArray) (a : List ByteArray), n - i = k → i ≤ n → k < fl → a.length = n + 1 → a.length ≤ 1099511627776 → (segs [] (bts r)).length = n + 1 - i → r.size ≤ 1048576 →
    strings_genSplit_l2 p0 ⟨#[46]⟩ 0 j fl r a (i : Int) = some (a.take i ++ (segs [] (bts r)).map mkB)
  | 0, i, fl, r, a, hk, hi, hf, ha, ha', hs, hr => by
    obtain ⟨fl, rfl⟩ : ∃ q, fl = q + 1 := ⟨fl - 1, by omega⟩
    have hin : i = n := by omega
    rw [strings_genSplit_l2, hj]
    have c : decide ((i : Int) < (n : Int)) = false := by simp; omega
    rw [c, cond_false, genSplit_j1_eq (by omega) ha']
    rcases idx_cases (bts r) with h | ⟨q, h⟩
    · rw [indexByte_none h]; rfl
    · have h1 := (indexByte_some h).2 []
      have h2 := segs_pos [] ((bts r).drop (q + 1))
      rw [h1] at hs
      simp only [List.length_cons] at hs
      omega
  | k + 1, i, fl, r, a, hk, hi, hf, ha, ha', hs, hr => by
    obtain ⟨fl, rfl⟩ : ∃ q, fl = q + 1 := ⟨fl - 1, by omega⟩
    rw [strings_genSplit_l2, hj]
    have c : decide ((i : Int) < (n : Int)) = true := by simp; omega
    rw [c, cond_true, strings_Index_dot', bnd1_mk]
    rcases idx_cases (bts r) with h | ⟨q, h⟩
    · rw [indexByte_none h] at hs
      simp at hs
      omega
    · obtain ⟨h1, h2⟩ := indexByte_some h
      have h2 := h2 []
      rw [bts_len] at h1
      have hi' : i < a.length := by omega
      rw [h, dotB]
      have c' : decide ((q : Int) < 0) = false := by simp
      have e1 : ((i : Int) + 1) = ((i + 1 : Nat) : Int) := by omega
      rw [c', cond_false, grd_pos (by simp only [i64]; omega), grd_pos (by omega), idx_nat, List.getElem?_eq_getElem hi', bnd1_mk, grd_pos (by simp only [i64]; omega), grd_pos (by omega), grd_pos (by simp only [i64]; omega), e1]
      have e2 : bts (r.extract ((q : Int) + ((1 : Nat) : Int)).toNat (r.size : Int).toNat) = (bts r).drop (q + 1) := by
        rw [bts_extract]
        have e3 : ((q : Int) + ((1 : Nat) : Int)).toNat = q + 1 := by omega
        rw [e3, List.take_of_length_le (by rw [List.length_drop, bts_len]; omega)]
      rw [h2, List.length_cons] at hs
      rw [genSplit_l2_eq p0 j n hj k (i + 1) fl _ _ (by omega) (by omega) (by omega) (by simp [ha]) (by simp [ha']) (by rw [e2]; omega) (by rw [ByteArray.size_extract]; omega), e2, h2]
      congr 1
      rw [Int.toNat_natCast, List.take_add_one, List.take_set_of_le (Nat.le_refl i), List.getElem?_set_self hi', extract_mkB]
      have e4 : ((q : Int) + 0).toNat - ((0 : Nat) : Int).toNat = q := by omega
      rw [e4]
      simp

theorem strings_Count_dot {s : ByteArray} : strings_Count s ⟨#[46]⟩ = some ((Lib.countByte (bts s) 46 : Nat) : Int) := by
  unfold strings_Count
  have c1 : decide (((⟨#[46]⟩ : ByteArray).size : Int) = 0) = false := by rw [dotB]; decide
  have c2 : decide (((⟨#[46]⟩ : ByteArray).size : Int) = 1) = true := by rw [dotB]; decide
  have h46 : (46 : Int).toNat.toUInt8 = 46 := by decide
  rw [c1, cond_false, c2, cond_true, dot_sidx, bnd1_mk, h46]
  rfl

theorem i_Labels_eq {s : ByteArray} (hs : s.size ≤ 1048576) : i_Labels s = some (labels s) := by
  unfold i_Labels
  by_cases hne : s = ⟨#[]⟩
  · subst hne
    have e : bts (⟨#[]⟩ : ByteArray) = [] := rfl
    simp [labels, e]
  · have e : bts s ≠ [] := fun h => hne ((bts_nil_iff s).2 h)
    have hne' : ¬ ((⟨#[46]⟩ : ByteArray) = ⟨#[]⟩) := by decide
    have hc := count_segs (bts s) []
    have hl := segs_len (bts s) []
    rw [bts_len] at hl
    have e0 := strings_Count_dot (s := s)
    have hjj : (if (s.size : Int) + 1 < ((Lib.countByte (bts s) 46 : Nat) : Int) + 1 then (s.size : Int) + 1 else ((Lib.countByte (bts s) 46 : Nat) : Int) + 1) = ((Lib.countByte (bts s) 46 : Nat) : Int) + 1 := by rw [if_neg (by omega)]
    have hloop := genSplit_l2_eq s (((Lib.countByte (bts s) 46 : Nat) : Int) + 1) (Lib.countByte (bts s) 46) (by rw [hjj]; omega) (Lib.countByte (bts s) 46) 0 fuel0 s (List.replicate (((Lib.countByte (bts s) 46 : Nat) : Int) + 1).toNat ⟨#[]⟩) (by omega) (by omega) (by unfold fuel0; omega) (by simp) (by simp; omega) (by omega) hs
    have g0 : decide ((-1 : Int) = 0) = false := by decide
    have g1 : decide ((⟨#[46]⟩ : ByteArray) = ⟨#[]⟩) = false := decide_eq_false hne'
    have g2 : decide ((-1 : Int) < 0) = true := by decide
    rw [decide_eq_false hne, cond_false, strings_Split, strings_genSplit, g0, g1, g2, cond_false, cond_false, cond_true, e0, bnd1_mk, grd_pos (by simp only [i64]; omega), strings_genSplit_j0, hjj, grd_pos (by simp only [i64]; omega), grd_pos (by omega), grd_pos (by simp only [i64]; omega)]
    rw [Int.natCast_zero] at hloop
    rw [hloop, bnd1_mk, bnd1_mk]
    unfold labels
    rw [if_neg e, List.take_zero, List.nil_append]

def MFact.sm (x : MFact) : Prop := smL x.links ∧ smL x.l

theorem w_szFact_p {x : MFact} {n : Int} (hx : x.ok) (hn : 0 ≤ n ∧ n ≤ 1048576) : ∃ v, w_szFact x n = some v ∧ v ≤ n ∧ (0 ≤ v → x.sm) := by
  obtain ⟨-, h4, h5⟩ := hx
  unfold w_szFact
  obtain ⟨b, b1, b2, b3⟩ := w_szRecordS_p h4 hn
  by_cases c' : b < 0
  · exact ⟨-1, by simp [b1, c'], by omega, by omega⟩
  obtain ⟨d, d1, d2, d3⟩ := w_szRecordS_p h5 (n := b) (by omega)
  by_cases c2 : d < 0
  · exact ⟨-1, by simp [b1, c', d1, c2], by omega, by omega⟩
  · exact ⟨d, by simp [b1, c', d1, c2], by omega, fun _ => ⟨b3 (by omega), d3 (by omega)⟩⟩

theorem w_toFact_eq {x : MFact} (h : x.sm) : w_toFact x = some x := by
  unfold w_toFact; simp [w_toRecordS_eq (Nat.le_trans h.1.1 (by decide)), w_toRecordS_eq (Nat.le_trans h.2.1 (by decide))]

theorem w_eqFact_self {x : MFact} : w_eqFact x x = some true := by unfold w_eqFact; simp [w_eqRecordS_self]

theorem segs_mem : ∀ (l cur x : List UInt8), x ∈ segs cur l → x.length ≤ cur.length + l.length
  | [], cur, x, h => by
    unfold segs at h
    rw [List.mem_singleton] at h
    subst h; simp
  | b :: l, cur, x, h => by
    unfold segs at h
    split at h
    · rcases List.mem_cons.1 h with h | h
      · subst h; simp
      · have := segs_mem l [] x h
        simp at this ⊢; omega
    · have := segs_mem l (cur ++ [b]) x h
      simp at this ⊢; omega

theorem labels_mem {s x : ByteArray} (h : x ∈ labels s) : x.size ≤ s.size := by
  unfold labels at h
  split at h
  · cases h
  · obtain ⟨y, hy, e⟩ := List.mem_map.1 h
    have h1 := segs_mem _ _ _ hy
    subst e
    rw [← bts_len, bts_mkB, ← bts_len s]
    simpa using h1

def chP (n : Int) : Bool := (decide (97 ≤ n) && decide (n ≤ 122)) || ((decide (48 ≤ n) && decide (n ≤ 57)) || (decide (n = 45) || decide (n = 95)))

def labelP (s : ByteArray) : Bool := ((bts s).all fun b => chP b.toNat) && (decide (1 ≤ (s.size : Int)) && decide ((s.size : Int) ≤ 12))

theorem s_l1In_eq {a b c : Int} : s_l1In a b c = some (decide (b ≤ a) && decide (a ≤ c)) := by
  unfold s_l1In; cases decide (b ≤ a) <;> rfl

theorem s_l2Byte_eq {b : UInt8} : s_l2Byte (b.toNat : Int) = some (chP b.toNat) := by
  have h := b.toNat_lt
  unfold s_l2Byte chP
  rw [wrap_id (by omega), s_l1In_eq, bnd1_mk, s_l1In_eq, bnd1_mk]
  cases decide (97 ≤ (b.toNat : Int)) && decide ((b.toNat : Int) ≤ 122) <;> cases decide (48 ≤ (b.toNat : Int)) && decide ((b.toNat : Int) ≤ 57) <;> cases decide ((b.toNat : Int) = 45) <;> rfl

theorem drop_all {s : ByteArray} {i : Nat} {b : UInt8} {p : UInt8 → Bool} (h : (bts s)[i]? = some b) : ((bts s).drop i).all p = (p b && ((bts s).drop (i + 1)).all p) := by
  obtain ⟨h1, h2⟩ := List.getElem?_eq_some_iff.1 h
  rw [List.drop_eq_getElem_cons h1, List.all_cons, h2]

theorem bts_get {s : ByteArray} {i : Nat} (h : i < s.size) : ∃ b, (bts s)[i]? = some b := ⟨(bts s)[i]'h, List.getElem?_eq_getElem h⟩

theorem s_LabelOk_l1_eq {s : ByteArray} (hs : s.size ≤ 1048576) : ∀ (k i fl : Nat), s.size - i = k → i ≤ s.size → k < fl → s_LabelOk_l1 s fl (i : Int) = some (((bts s).drop i).all (fun b => chP b.toNat) && (decide (1 ≤ (s.size : Int)) && decide ((s.size : Int) ≤ 12)))
  | 0, i, fl, hk, hi, hf => by
    obtain ⟨fl, rfl⟩ : ∃ q, fl = q + 1 := ⟨fl - 1, by omega⟩
    have c : ¬ ((i : Int) < (s.size : Int)) := by omega
    have e : (bts s).drop i = [] := List.drop_eq_nil_of_le (by rw [bts_len]; omega)
    rw [s_LabelOk_l1, decide_eq_false c, cond_false, e]
    unfold s_LabelOk_j0
    rw [s_l1In_eq]; rfl
  | k + 1, i, fl, hk, hi, hf => by
    obtain ⟨fl, rfl⟩ : ∃ q, fl = q + 1 := ⟨fl - 1, by omega⟩
    have c : (i : Int) < (s.size : Int) := by omega
    obtain ⟨b, hb⟩ := bts_get (s := s) (i := i) (by omega)
    have h := s_LabelOk_l1_eq hs k (i + 1) fl (by omega) (by omega) (by omega)
    rw [s_LabelOk_l1, decide_eq_true c, cond_true, sidx_nat hb, bnd1_mk, s_l2Byte_eq, bnd1_mk, grd_pos (by simp only [i64]; omega)]
    have e : ((i : Int) + 1) = ((i + 1 : Nat) : Int) := by omega
    rw [e, h, drop_all hb]
    cases chP b.toNat <;> rfl

theorem fuel_lt {k : Nat} (h : k ≤ 1048576) : k < fuel0 := by unfold fuel0; omega

theorem s_LabelOk_eq {s : ByteArray} (hs : s.size ≤ 1048576) : s_LabelOk s = some (labelP s) := by
  have h := s_LabelOk_l1_eq hs s.size 0 fuel0 (by omega) (by omega) (fuel_lt hs)
  unfold s_LabelOk
  exact h

theorem i_LabelOk_l1_eq {s : ByteArray} (hs : s.size ≤ 1048576) : ∀ (k i fl : Nat), s.size - i = k → i ≤ s.size → k < fl → i_LabelOk_l1 s fl (i : Int) = some (((bts s).drop i).all (fun b => chP b.toNat) && (decide (1 ≤ (s.size : Int)) && decide ((s.size : Int) ≤ 12)))
  | 0, i, fl, hk, hi, hf => by
    obtain ⟨fl, rfl⟩ : ∃ q, fl = q + 1 := ⟨fl - 1, by omega⟩
    have c : ¬ ((i : Int) < (s.size : Int)) := by omega
    have e : (bts s).drop i = [] := List.drop_eq_nil_of_le (by rw [bts_len]; omega)
    rw [i_LabelOk_l1, decide_eq_false c, cond_false, e]
    unfold i_LabelOk_j0
    cases decide (1 ≤ (s.size : Int)) <;> rfl
  | k + 1, i, fl, hk, hi, hf => by
    obtain ⟨fl, rfl⟩ : ∃ q, fl = q + 1 := ⟨fl - 1, by omega⟩
    have c : (i : Int) < (s.size : Int) := by omega
    obtain ⟨b, hb⟩ := bts_get (s := s) (i := i) (by omega)
    have h := i_LabelOk_l1_eq hs k (i + 1) fl (by omega) (by omega) (by omega)
    rw [i_LabelOk_l1, decide_eq_true c, cond_true, sidx_nat hb, bnd1_mk]
    have e : ((i : Int) + 1) = ((i + 1 : Nat) : Int) := by omega
    have hj : ∀ y : Bool, i_LabelOk_j2 (i : Int) (i_LabelOk_l1 s fl) y = some (!y && (((bts s).drop (i + 1)).all (fun b => chP b.toNat) && (decide (1 ≤ (s.size : Int)) && decide ((s.size : Int) ≤ 12)))) := by
      intro y
      unfold i_LabelOk_j2
      rw [grd_pos (by simp only [i64]; omega), e, h]
      cases y <;> rfl
    simp only [hj]
    rw [drop_all hb]
    have hc : chP b.toNat = !(((decide ((b.toNat : Int) < 97)) || decide (122 < (b.toNat : Int))) && ((decide ((b.toNat : Int) < 48) || decide (57 < (b.toNat : Int))) && ((!decide ((b.toNat : Int) = 45)) && !decide ((b.toNat : Int) = 95)))) := by
      have e1 : decide (97 ≤ (b.toNat : Int)) = !decide ((b.toNat : Int) < 97) := by by_cases c : (b.toNat : Int) < 97 <;> simp [c] <;> omega
      have e2 : decide ((b.toNat : Int) ≤ 122) = !decide (122 < (b.toNat : Int)) := by by_cases c : 122 < (b.toNat : Int) <;> simp [c] <;> omega
      have e3 : decide (48 ≤ (b.toNat : Int)) = !decide ((b.toNat : Int) < 48) := by by_cases c : (b.toNat : Int) < 48 <;> simp [c] <;> omega
      have e4 : decide ((b.toNat : Int) ≤ 57) = !decide (57 < (b.toNat : Int)) := by by_cases c : 57 < (b.toNat : Int) <;> simp [c] <;> omega
      unfold chP
      rw [e1, e2, e3, e4]
      cases decide ((b.toNat : Int) < 97) <;> cases decide (122 < (b.toNat : Int)) <;> cases decide ((b.toNat : Int) < 48) <;> cases decide (57 < (b.toNat : Int)) <;> cases decide ((b.toNat : Int) = 45) <;> cases decide ((b.toNat : Int) = 95) <;> rfl
    rw [hc]
    rw [Bool.and_assoc]
    generalize (((bts s).drop (i + 1)).all (fun b => chP b.toNat) && (decide (1 ≤ (s.size : Int)) && decide ((s.size : Int) ≤ 12))) = R
    cases decide ((b.toNat : Int) < 97) <;> cases decide (122 < (b.toNat : Int)) <;> cases decide ((b.toNat : Int) < 48) <;> cases decide (57 < (b.toNat : Int)) <;> cases decide ((b.toNat : Int) = 45) <;> cases decide ((b.toNat : Int) = 95) <;> rfl

theorem i_LabelOk_eq {s : ByteArray} (hs : s.size ≤ 1048576) : i_LabelOk s = some (labelP s) := by
  have h := i_LabelOk_l1_eq hs s.size 0 fuel0 (by omega) (by omega) (fuel_lt hs)
  unfold i_LabelOk
  exact h

def nameP (s : ByteArray) : Bool := (labels s).all labelP && (decide ((s.size : Int) ≤ 50) && decide (((labels s).length : Int) ≤ 6))

theorem s_NameOk_l1_eq {s : ByteArray} : ∀ (l : List ByteArray) (i : Nat), (∀ x, x ∈ l → x.size ≤ 1048576) → s_NameOk_l1 s (labels s) l i = some (l.all labelP && (decide ((s.size : Int) ≤ 50) && decide (((labels s).length : Int) ≤ 6)))
  | [], i, _ => by
    rw [s_NameOk_l1]; unfold s_NameOk_j0
    cases decide ((s.size : Int) ≤ 50) <;> rfl
  | x :: l, i, h => by
    rw [s_NameOk_l1, s_LabelOk_eq (h x (.head _)), bnd1_mk, s_NameOk_l1_eq l (i + 1) fun y hy => h y (.tail _ hy), List.all_cons]
    cases labelP x <;> rfl

theorem s_NameOk_eq {s : ByteArray} (hs : s.size ≤ 1048576) : s_NameOk s = some (nameP s) := by
  unfold s_NameOk
  rw [s_Labels_eq hs, bnd1_mk, s_NameOk_l1_eq _ _ fun x hx => Nat.le_trans (labels_mem hx) hs]; rfl

theorem slices_IndexFunc_string_l0_eq {g : ByteArray → Option Bool} {p : ByteArray → Bool} : ∀ (l : List ByteArray) (i : Nat), (∀ r, r ∈ l → g r = some (p r)) → ∃ v, slices_IndexFunc_string_l0 g l i = some v ∧ decide (0 ≤ v) = l.any p
  | [], i, _ => ⟨-1, rfl, rfl⟩
  | r :: l, i, h => by
    rw [slices_IndexFunc_string_l0, h r (.head _), bnd1_mk]
    cases c : p r with
    | true => exact ⟨i, rfl, by simp [c]⟩
    | false =>
      obtain ⟨v, h1, h2⟩ := slices_IndexFunc_string_l0_eq l (i + 1) fun q hq => h q (.tail _ hq)
      exact ⟨v, h1, by simp [c, h2]⟩

theorem slices_ContainsFunc_string_eq {g : ByteArray → Option Bool} {p : ByteArray → Bool} {l : List ByteArray} (h : ∀ r, r ∈ l → g r = some (p r)) : slices_ContainsFunc_string l g = some (l.any p) := by
  obtain ⟨v, h1, h2⟩ := slices_IndexFunc_string_l0_eq l 0 h
  unfold slices_ContainsFunc_string slices_IndexFunc_string
  rw [h1, bnd1_mk, h2]

theorem any_not_all {α : Type} (p : α → Bool) : ∀ l : List α, (!l.any fun x => !p x) = l.all p
  | [] => rfl
  | x :: l => by rw [List.any_cons, List.all_cons, ← any_not_all p l]; cases p x <;> simp

theorem i_NameOk_eq {s : ByteArray} (hs : s.size ≤ 1048576) : i_NameOk s = some (nameP s) := by
  unfold i_NameOk nameP
  rw [i_Labels_eq hs, bnd1_mk, slices_ContainsFunc_string_eq (p := fun x => !labelP x) fun r hr => by unfold i_NameOk_1; rw [i_LabelOk_eq (Nat.le_trans (labels_mem hr) hs)]; rfl, bnd1_mk, any_not_all]
  cases decide ((s.size : Int) ≤ 50) <;> cases decide (((labels s).length : Int) ≤ 6) <;> cases (labels s).all labelP <;> rfl

theorem textTail {s : ByteArray} {i : Nat} (h : ¬ ((i : Int) < (s.size : Int))) : (bts s).drop i = [] := List.drop_eq_nil_of_le (by rw [bts_len]; omega)

def txP (n : Int) : Bool := decide (33 ≤ n) && decide (n ≤ 126)

def textP (s : ByteArray) : Bool := ((bts s).all fun b => txP b.toNat) && decide ((s.size : Int) ≤ 12)

theorem s_l5Text_l1_eq {s : ByteArray} (hs : s.size ≤ 1048576) : ∀ (k i fl : Nat), s.size - i = k → i ≤ s.size → k < fl → s_l5Text_l1 s fl (i : Int) = some (((bts s).drop i).all (fun b => txP b.toNat) && decide ((s.size : Int) ≤ 12))
  | 0, i, fl, hk, hi, hf => by
    obtain ⟨fl, rfl⟩ : ∃ q, fl = q + 1 := ⟨fl - 1, by omega⟩
    have c : ¬ ((i : Int) < (s.size : Int)) := by omega
    rw [s_l5Text_l1, decide_eq_false c, cond_false, textTail c]
    rfl
  | k + 1, i, fl, hk, hi, hf => by
    obtain ⟨fl, rfl⟩ : ∃ q, fl = q + 1 := ⟨fl - 1, by omega⟩
    have c : (i : Int) < (s.size : Int) := by omega
    obtain ⟨b, hb⟩ := bts_get (s := s) (i := i) (by omega)
    have hl := b.toNat_lt
    have h := s_l5Text_l1_eq hs k (i + 1) fl (by omega) (by omega) (by omega)
    have e : ((i : Int) + 1) = ((i + 1 : Nat) : Int) := by omega
    rw [s_l5Text_l1, decide_eq_true c, cond_true, sidx_nat hb, bnd1_mk, wrap_id (by omega), s_l1In_eq, bnd1_mk, grd_pos (by simp only [i64]; omega), e, h, drop_all hb, Bool.and_assoc]
    unfold txP
    cases decide (33 ≤ (b.toNat : Int)) && decide ((b.toNat : Int) ≤ 126) <;> rfl

theorem s_l5Text_eq {s : ByteArray} (hs : s.size ≤ 1048576) : s_l5Text s = some (textP s) := by
  have h := s_l5Text_l1_eq hs s.size 0 fuel0 (by omega) (by omega) (fuel_lt hs)
  unfold s_l5Text
  exact h

theorem i_isText_l1_eq {s : ByteArray} (hs : s.size ≤ 1048576) : ∀ (k i fl : Nat), s.size - i = k → i ≤ s.size → k < fl → i_isText_l1 s fl (i : Int) = some (((bts s).drop i).all (fun b => txP b.toNat) && decide ((s.size : Int) ≤ 12))
  | 0, i, fl, hk, hi, hf => by
    obtain ⟨fl, rfl⟩ : ∃ q, fl = q + 1 := ⟨fl - 1, by omega⟩
    have c : ¬ ((i : Int) < (s.size : Int)) := by omega
    rw [i_isText_l1, decide_eq_false c, cond_false, textTail c]
    rfl
  | k + 1, i, fl, hk, hi, hf => by
    obtain ⟨fl, rfl⟩ : ∃ q, fl = q + 1 := ⟨fl - 1, by omega⟩
    have c : (i : Int) < (s.size : Int) := by omega
    obtain ⟨b, hb⟩ := bts_get (s := s) (i := i) (by omega)
    have h := i_isText_l1_eq hs k (i + 1) fl (by omega) (by omega) (by omega)
    have e : ((i : Int) + 1) = ((i + 1 : Nat) : Int) := by omega
    have hj : ∀ y : Bool, i_isText_j2 (i : Int) (i_isText_l1 s fl) y = some (!y && (((bts s).drop (i + 1)).all (fun b => txP b.toNat) && decide ((s.size : Int) ≤ 12))) := by
      intro y
      unfold i_isText_j2
      rw [grd_pos (by simp only [i64]; omega), e, h]
      cases y <;> rfl
    rw [i_isText_l1, decide_eq_true c, cond_true, sidx_nat hb, bnd1_mk, bnd1_mk, hj, hj, drop_all hb, Bool.and_assoc]
    have e1 : decide (33 ≤ (b.toNat : Int)) = !decide ((b.toNat : Int) < 33) := by by_cases c : (b.toNat : Int) < 33 <;> simp [c] <;> omega
    have e2 : decide ((b.toNat : Int) ≤ 126) = !decide (126 < (b.toNat : Int)) := by by_cases c : 126 < (b.toNat : Int) <;> simp [c] <;> omega
    unfold txP
    rw [e1, e2]
    generalize (((bts s).drop (i + 1)).all (fun b => decide (33 ≤ (b.toNat : Int)) && decide ((b.toNat : Int) ≤ 126)) && decide ((s.size : Int) ≤ 12)) = R
    cases decide ((b.toNat : Int) < 33) <;> cases decide (126 < (b.toNat : Int)) <;> rfl

theorem i_isText_eq {s : ByteArray} (hs : s.size ≤ 1048576) : i_isText s = some (textP s) := by
  have h := i_isText_l1_eq hs s.size 0 fuel0 (by omega) (by omega) (fuel_lt hs)
  unfold i_isText
  exact h

def inP (a b c : Int) : Bool := decide (b ≤ a) && decide (a ≤ c)

theorem i_isTtl_eq {a : Int} : i_isTtl a = some (inP a 0 100000) := by
  unfold i_isTtl inP; cases decide (0 ≤ a) <;> rfl

theorem i_isFour_eq {a : Int} : i_isFour a = some (inP a 0 2147483647) := by
  unfold i_isFour inP; cases decide (0 ≤ a) <;> rfl

def nilP (s : ByteArray) : Bool := decide (s = (⟨#[]⟩ : ByteArray))

def recP (r : Rec) : Bool :=
  nameP r.name && (inP r.ttl 0 100000 && (bif decide (r.ty = 1) then inP r.n 0 2147483647 && (nilP r.host && nilP r.text) else (bif decide (r.ty = 2) || decide (r.ty = 5) then decide (r.n = 0) && (nameP r.host && nilP r.text)
    else (bif decide (r.ty = 6) then inP r.n 0 100000 && (nameP r.host && nilP r.text) else decide (r.ty = 16) && (decide (r.n = 0) && (nilP r.host && textP r.text))))))

theorem s_RecordOk_eq {r : Rec} (h : r.sm) : s_RecordOk r = some (recP r) := by
  obtain ⟨h1, h2, h3⟩ := h
  unfold s_RecordOk s_RecordOk_j0 s_RecordOk_j1 recP nilP
  rw [s_NameOk_eq h1, bnd1_mk, s_l1In_eq, bnd1_mk, s_l1In_eq, bnd1_mk, s_l1In_eq, bnd1_mk, s_NameOk_eq h2, bnd1_mk, s_l5Text_eq h3, bnd1_mk]
  unfold inP
  generalize (decide (0 ≤ r.ttl) && decide (r.ttl ≤ 100000)) = a
  generalize (decide (0 ≤ r.n) && decide (r.n ≤ 2147483647)) = b
  generalize (decide (0 ≤ r.n) && decide (r.n ≤ 100000)) = d
  cases nameP r.name <;> cases a <;> cases decide (r.ty = 1) <;> cases decide (r.ty = 2) <;> cases decide (r.ty = 5) <;> cases decide (r.ty = 6) <;> cases decide (r.ty = 16) <;> try rfl
  all_goals (cases b <;> cases d <;> cases decide (r.n = 0) <;> cases nameP r.host <;> cases decide (r.host = (⟨#[]⟩ : ByteArray)) <;> rfl)

theorem i_RecordOk_eq {r : Rec} (h : r.sm) : i_RecordOk r = some (recP r) := by
  obtain ⟨h1, h2, h3⟩ := h
  unfold i_RecordOk i_RecordOk_j0 i_RecordOk_j1 recP nilP
  rw [i_NameOk_eq h1, bnd1_mk, i_isTtl_eq, bnd1_mk, i_isFour_eq, bnd1_mk, i_isTtl_eq, bnd1_mk, i_NameOk_eq h2, bnd1_mk, i_isText_eq h3, bnd1_mk]
  generalize inP r.ttl 0 100000 = a
  generalize inP r.n 0 2147483647 = b
  generalize inP r.n 0 100000 = d
  cases nameP r.name <;> cases a <;> cases decide (r.ty = 1) <;> cases decide (r.ty = 2) <;> cases decide (r.ty = 5) <;> cases decide (r.ty = 6) <;> cases decide (r.ty = 16) <;> try rfl
  all_goals (cases b <;> cases d <;> cases decide (r.n = 0) <;> cases nameP r.host <;> cases decide (r.host = (⟨#[]⟩ : ByteArray)) <;> rfl)

theorem wrap8 {x : Int} (h : 0 ≤ x ∧ x < 256) : IntKind.u8.wrap x = x := by
  simp [IntKind.wrap, IntKind.signed, IntKind.bits]; omega

def z1 (t : Int) (a : Bool) : List Rec := bif a then [Rec.mk (⟨#[99, 111, 109]⟩ : ByteArray) 6 t (IntKind.i64.wrap (Int.tdiv t 2)) (⟨#[]⟩ : ByteArray) (⟨#[]⟩ : ByteArray), Rec.mk (⟨#[99, 111, 109]⟩ : ByteArray) 2 t 0 (⟨#[110, 115, 46, 99, 111, 109]⟩ : ByteArray) (⟨#[]⟩ : ByteArray), Rec.mk (⟨#[110, 115, 46, 99, 111, 109]⟩ : ByteArray) 1 t 2 (⟨#[]⟩ : ByteArray) (⟨#[]⟩ : ByteArray)] ++ [Rec.mk (⟨#[101, 120, 46, 99, 111, 109]⟩ : ByteArray) 2 t 0 (⟨#[110, 115, 46, 101, 120, 46, 99, 111, 109]⟩ : ByteArray) (⟨#[]⟩ : ByteArray), Rec.mk (⟨#[110, 115, 46, 101, 120, 46, 99, 111, 109]⟩ : ByteArray) 1 t 3 (⟨#[]⟩ : ByteArray) (⟨#[]⟩ : ByteArray)]
  else [Rec.mk (⟨#[99, 111, 109]⟩ : ByteArray) 6 t (IntKind.i64.wrap (Int.tdiv t 2)) (⟨#[]⟩ : ByteArray) (⟨#[]⟩ : ByteArray), Rec.mk (⟨#[99, 111, 109]⟩ : ByteArray) 2 t 0 (⟨#[110, 115, 46, 99, 111, 109]⟩ : ByteArray) (⟨#[]⟩ : ByteArray), Rec.mk (⟨#[110, 115, 46, 99, 111, 109]⟩ : ByteArray) 1 t 2 (⟨#[]⟩ : ByteArray) (⟨#[]⟩ : ByteArray)]

def z2 (b : Bool) (l : List Rec) : List Rec := bif b then l ++ [Rec.mk (⟨#[119, 119, 119, 46, 99, 111, 109]⟩ : ByteArray) 5 9 0 (⟨#[97, 46, 111, 114, 103]⟩ : ByteArray) (⟨#[]⟩ : ByteArray)] else l

theorem ba_ext {a b : ByteArray} (h : a.data.toList = b.data.toList) : a = b := by
  cases a; cases b; simp only at h; congr 1; exact Array.toList_inj.1 h

theorem ba_app (a b : ByteArray) : (a ++ b).data.toList = a.data.toList ++ b.data.toList := by
  rw [ByteArray.data_append, Array.toList_append]

theorem joinB_list (l : List ByteArray) (s : ByteArray) : (joinB l s).data.toList = Lib.join (l.map fun x => x.data.toList) s.data.toList := by
  unfold joinB; simp

theorem joinB_one (p s : ByteArray) : joinB [p] s = p := ba_ext (by rw [joinB_list]; simp [Lib.join_one])

theorem joinB_snoc {l : List ByteArray} (p s : ByteArray) (h : l ≠ []) : joinB (l ++ [p]) s = (joinB l s ++ s) ++ p := by
  cases l with
  | nil => exact absurd rfl h
  | cons x t =>
    apply ba_ext
    rw [ba_app, ba_app, joinB_list, joinB_list]
    simp only [List.cons_append, List.map_cons, List.map_append, List.map_nil, Lib.join_cons, Lib.joinTail]
    simp [List.append_assoc]

theorem size_app (a b : ByteArray) : (a ++ b).size = a.size + b.size := ByteArray.size_append

def dg (d : Nat) : ByteArray := strOfNums [48 + (d : Int)]

def numL (v : Nat) : ByteArray := if _h : v = 0 then ⟨#[]⟩ else numL (v / 10) ++ dg (v % 10)
termination_by v
decreasing_by omega

def num (v : Nat) : ByteArray := if v = 0 then ⟨#[48]⟩ else numL v

theorem dg_size (d : Nat) : (dg d).size = 1 := rfl

theorem numL_size : ∀ (k v : Nat), v ≤ k → (numL v).size ≤ v
  | k, v, h => by
    rw [numL]
    by_cases c : v = 0
    · rw [dif_pos c]; show (0 : Nat) ≤ v; omega
    · rw [dif_neg c, ByteArray.size_append, dg_size]
      cases k with
      | zero => omega
      | succ k =>
        have := numL_size k (v / 10) (by omega)
        omega

theorem num_size (v : Nat) : (num v).size ≤ v + 1 := by
  unfold num
  split
  · show (1 : Nat) ≤ v + 1; omega
  · have := numL_size v v (Nat.le_refl _); omega

theorem enc_dig : ∀ d : Fin 10, Utf8.encode (IntKind.i32.wrap (48 + (d.val : Int))) = dg d.val := by decide +kernel

theorem enc_dig' {d : Nat} (h : d < 10) : Utf8.encode (IntKind.i32.wrap (48 + (d : Int))) = dg d := enc_dig ⟨d, h⟩

theorem nil_app (s : ByteArray) : (⟨#[]⟩ : ByteArray) ++ s = s := by apply ba_ext; rw [ba_app]; rfl

theorem num_lt {v : Nat} (h : v < 10) : num v = dg v := by
  unfold num
  by_cases c : v = 0
  · subst c; rfl
  · rw [if_neg c, numL, dif_neg c, numL, dif_pos (by omega), nil_app, Nat.mod_eq_of_lt h]

theorem num_ge {v : Nat} (h : 10 ≤ v) : num v = num (v / 10) ++ dg (v % 10) := by
  unfold num
  rw [if_neg (by omega), if_neg (by omega), numL, dif_neg (by omega)]

theorem i_NumText_r_eq : ∀ (k v fr : Nat), v ≤ 2147483647 → v < 10 ^ k → k < fr → i_NumText_r fr (v : Int) = some (num v)
  | 0, v, fr, hv, hk, hf => by
    obtain ⟨fr, rfl⟩ : ∃ q, fr = q + 1 := ⟨fr - 1, by omega⟩
    have h0 : v = 0 := by simpa using hk
    subst h0
    rw [i_NumText_r, decide_eq_false (by omega), cond_false]; rfl
  | k + 1, v, fr, hv, hk, hf => by
    obtain ⟨fr, rfl⟩ : ∃ q, fr = q + 1 := ⟨fr - 1, by omega⟩
    rw [i_NumText_r, decide_eq_false (by omega), cond_false]
    unfold i_NumText_j0
    rw [cond_false, decide_eq_false (by omega), cond_false]
    by_cases c : v < 10
    · rw [decide_eq_true (by omega), cond_true, grd_pos (by simp only [i64]; omega), enc_dig' c, num_lt c]
    · have e1 : Int.tdiv (v : Int) 10 = ((v / 10 : Nat) : Int) := by rw [Int.tdiv_eq_ediv_of_nonneg (by omega)]; omega
      have e2 : Int.tmod (v : Int) 10 = ((v % 10 : Nat) : Int) := by rw [Int.tmod_eq_emod_of_nonneg (by omega)]; omega
      have hk2 : v / 10 < 10 ^ k := by rw [Nat.pow_succ] at hk; omega
      have hs := num_size (v / 10)
      rw [decide_eq_false (by omega), cond_false, e1, e2, wrap_id (by omega), i_NumText_r_eq k (v / 10) fr (by omega) hk2 (by omega), bnd1_mk, grd_pos (by simp only [i64]; omega), enc_dig' (by omega), grd_pos (by rw [dg_size]; omega), num_ge (v := v) (by omega)]

theorem i_NumText_eq {v : Int} (h : 0 ≤ v ∧ v ≤ 2147483647) : i_NumText v = some (num v.toNat) := by
  unfold i_NumText
  have := i_NumText_r_eq 10 v.toNat fuel0 (by omega) (by omega) (by unfold fuel0; omega)
  rw [show ((v.toNat : Nat) : Int) = v by omega] at this
  exact this

theorem s_NumText_l1_eq {p : Int} (hp : 0 ≤ p) : ∀ (k v fl : Nat) (acc : ByteArray), v ≤ 2147483647 → v < 10 ^ k → k < fl → acc.size + k ≤ 4294967296 → s_NumText_l1 p fl acc (v : Int) = some (numL v ++ acc)
  | k, v, 0, acc, _, _, hf, _ => by omega
  | 0, v, fl + 1, acc, hv, hk, hf, ha => by
    have h0 : v = 0 := by simpa using hk
    subst h0
    rw [s_NumText_l1, decide_eq_true (by omega)]
    unfold s_NumText_j0
    rw [Bool.not_true, cond_false, decide_eq_false (by omega), cond_false, numL, dif_pos rfl, nil_app]
  | k + 1, v, fl + 1, acc, hv, hk, hf, ha => by
    rw [s_NumText_l1]
    by_cases c : v = 0
    · subst c
      rw [decide_eq_true (by omega)]
      unfold s_NumText_j0
      rw [Bool.not_true, cond_false, decide_eq_false (by omega), cond_false, numL, dif_pos rfl, nil_app]
    · have e1 : Int.tdiv (v : Int) 10 = ((v / 10 : Nat) : Int) := by rw [Int.tdiv_eq_ediv_of_nonneg (by omega)]; omega
      have e2 : Int.tmod (v : Int) 10 = ((v % 10 : Nat) : Int) := by rw [Int.tmod_eq_emod_of_nonneg (by omega)]; omega
      have hk2 : v / 10 < 10 ^ k := by rw [Nat.pow_succ] at hk; omega
      rw [decide_eq_false (by omega), Bool.not_false, cond_true, e2, decide_eq_false (by omega), cond_false]
      unfold s_NumText_j2
      have ed : strOfNums [IntKind.u8.wrap (48 + ((v % 10 : Nat) : Int))] = dg (v % 10) := by unfold dg; rw [wrap8 (by omega)]
      have ih := s_NumText_l1_eq hp k (v / 10) fl (dg (v % 10) ++ acc) (by omega) hk2 (by omega)
      have e3 : numL v ++ acc = numL (v / 10) ++ (dg (v % 10) ++ acc) := by
        rw [numL, dif_neg c]
        apply ba_ext; simp only [ba_app, List.append_assoc]
      rw [grd_pos (by simp only [i64]; omega), ed, grd_pos (by rw [dg_size]; omega), e1, wrap_id (by omega), ih (by rw [size_app, dg_size]; omega), e3]

theorem s_NumText_eq {v : Int} (h : 0 ≤ v ∧ v ≤ 2147483647) : s_NumText v = some (num v.toNat) := by
  unfold s_NumText num
  by_cases c : v = 0
  · rw [decide_eq_true c, if_pos (by omega)]; rfl
  · have := s_NumText_l1_eq (p := v) h.1 10 v.toNat fuel0 ⟨#[]⟩ (by omega) (by omega) (by unfold fuel0; omega) (by show 0 + 10 ≤ _; omega)
    rw [show ((v.toNat : Nat) : Int) = v by omega] at this
    rw [decide_eq_false c, cond_false, if_neg (by omega), this]
    congr 1
    apply ba_ext; rw [ba_app]; simp

/-- A record as a text: its parts, with a space between. -/
def dotN (s : ByteArray) : ByteArray := if s = ⟨#[]⟩ then ⟨#[46]⟩ else s

def typS (k : Int) : ByteArray := if k = 1 then ⟨#[97, 100, 100, 114]⟩ else if k = 2 then ⟨#[115, 101, 114, 118, 101, 114]⟩ else if k = 5 then ⟨#[97, 108, 105, 97, 115]⟩ else if k = 6 then ⟨#[115, 116, 97, 114, 116]⟩ else if k = 16 then ⟨#[116, 101, 120, 116]⟩ else ⟨#[]⟩

def spc (a b : ByteArray) : ByteArray := (a ++ ⟨#[32]⟩) ++ b

def recS (r : Rec) : ByteArray :=
  if recP r = true then
    (if r.ty = 1 then spc (spc (spc (dotN r.name) (num r.ttl.toNat)) (typS r.ty)) (num r.n.toNat)
    else if r.ty = 6 then spc (spc (spc (spc (dotN r.name) (num r.ttl.toNat)) (typS r.ty)) (dotN r.host)) (num r.n.toNat)
    else if r.ty = 16 then spc (spc (spc (dotN r.name) (num r.ttl.toNat)) (typS r.ty)) (⟨#[39]⟩ ++ r.text)
    else spc (spc (spc (dotN r.name) (num r.ttl.toNat)) (typS r.ty)) (dotN r.host))
  else ⟨#[]⟩

theorem spc_size (a b : ByteArray) : (spc a b).size = a.size + 1 + b.size := by unfold spc; rw [size_app, size_app]; rfl

theorem dotN_size (s : ByteArray) : (dotN s).size ≤ s.size + 1 := by
  unfold dotN; split
  · show (1 : Nat) ≤ _; omega
  · omega

theorem typS_size (k : Int) : (typS k).size ≤ 6 := by
  unfold typS
  repeat (split; (first | (show (4 : Nat) ≤ 6; omega) | (show (5 : Nat) ≤ 6; omega) | (show (6 : Nat) ≤ 6; omega)))
  show (0 : Nat) ≤ 6; omega

theorem s_l5Dot_eq {s : ByteArray} : s_l5Dot s = some (dotN s) := by unfold s_l5Dot dotN; by_cases c : s = ⟨#[]⟩ <;> simp [c]

theorem i_nameText_eq {s : ByteArray} : i_nameText s = some (dotN s) := by unfold i_nameText dotN; by_cases c : s = ⟨#[]⟩ <;> simp [c]

theorem s_TypeText_eq {k : Int} : s_TypeText k = some (typS k) := by
  unfold s_TypeText typS
  by_cases c1 : k = 1
  · simp [c1]
  by_cases c2 : k = 2
  · simp [c2]
  by_cases c5 : k = 5
  · simp [c5]
  by_cases c6 : k = 6
  · simp [c6]
  by_cases c16 : k = 16
  · simp [c16]
  simp [c1, c2, c5, c6, c16]

theorem i_TypeText_eqS {k : Int} : i_TypeText k = some (typS k) := by
  unfold i_TypeText typS
  by_cases c1 : k = 1
  · simp [c1]
  by_cases c2 : k = 2
  · simp [c2]
  by_cases c5 : k = 5
  · simp [c5]
  by_cases c6 : k = 6
  · simp [c6]
  by_cases c16 : k = 16
  · simp [c16]
  simp [c1, c2, c5, c6, c16]

theorem recP_t {r : Rec} (hp : recP r = true) : (0 ≤ r.ttl ∧ r.ttl ≤ 100000) ∧ (r.ty = 1 → 0 ≤ r.n ∧ r.n ≤ 2147483647) ∧ (r.ty = 6 → 0 ≤ r.n ∧ r.n ≤ 2147483647) ∧ (r.ty = 1 ∨ r.ty = 2 ∨ r.ty = 5 ∨ r.ty = 6 ∨ r.ty = 16) := by
  unfold recP at hp
  simp only [Bool.and_eq_true, inP, decide_eq_true_eq] at hp
  obtain ⟨h1, h2, h3⟩ := hp
  by_cases c1 : r.ty = 1
  · rw [decide_eq_true c1, cond_true] at h3
    simp only [Bool.and_eq_true, decide_eq_true_eq] at h3
    exact ⟨h2, fun _ => h3.1, fun h => by omega, .inl c1⟩
  rw [decide_eq_false c1, cond_false] at h3
  by_cases c2 : r.ty = 2
  · exact ⟨h2, fun h => absurd h c1, fun h => by omega, .inr (.inl c2)⟩
  by_cases c5 : r.ty = 5
  · exact ⟨h2, fun h => absurd h c1, fun h => by omega, .inr (.inr (.inl c5))⟩
  rw [decide_eq_false c2, decide_eq_false c5, Bool.or_false, cond_false] at h3
  by_cases c6 : r.ty = 6
  · rw [decide_eq_true c6, cond_true] at h3
    simp only [Bool.and_eq_true, decide_eq_true_eq] at h3
    exact ⟨h2, fun h => absurd h c1, fun _ => ⟨h3.1.1, by omega⟩, .inr (.inr (.inr (.inl c6)))⟩
  rw [decide_eq_false c6, cond_false] at h3
  simp only [Bool.and_eq_true, decide_eq_true_eq] at h3
  exact ⟨h2, fun h => absurd h c1, fun h => absurd h c6, .inr (.inr (.inr (.inr h3.1)))⟩

theorem recS_size {r : Rec} (h : r.sm) : (recS r).size ≤ 4300000000 := by
  obtain ⟨h1, h2, h3⟩ := h
  unfold recS
  split
  · rename_i hp
    obtain ⟨p1, p2, p3, p4⟩ := recP_t hp
    have a1 := dotN_size r.name
    have a2 := dotN_size r.host
    have a3 := num_size r.ttl.toNat
    have a4 := num_size r.n.toNat
    have a5 := typS_size r.ty
    by_cases c1 : r.ty = 1
    · have := p2 c1
      rw [if_pos c1, spc_size, spc_size, spc_size]; omega
    rw [if_neg c1]
    by_cases c6 : r.ty = 6
    · have := p3 c6
      rw [if_pos c6, spc_size, spc_size, spc_size, spc_size]; omega
    rw [if_neg c6]
    by_cases c16 : r.ty = 16
    · rw [if_pos c16, spc_size, spc_size, spc_size, size_app]; show _ + 1 + (1 + _) ≤ _; omega
    · rw [if_neg c16, spc_size, spc_size, spc_size]; omega
  · show (0 : Nat) ≤ _; omega

theorem joinB_spc3 (a b c : ByteArray) : joinB [a, b, c] ⟨#[32]⟩ = spc (spc a b) c := by
  rw [show [a, b, c] = ([a] ++ [b]) ++ [c] from rfl, joinB_snoc _ _ (by simp), joinB_snoc _ _ (by simp), joinB_one]; rfl

theorem joinB_spc {l : List ByteArray} (h : l ≠ []) (x : ByteArray) : joinB (l ++ [x]) ⟨#[32]⟩ = spc (joinB l ⟨#[32]⟩) x := joinB_snoc _ _ h

theorem i_RecordText_j0_eq {l : List ByteArray} (h : l.length ≤ 10) (h2 : (joinB l ⟨#[32]⟩).size ≤ 5000000000) : i_RecordText_j0 l = some (joinB l ⟨#[32]⟩) := by
  unfold i_RecordText_j0 strings_Join
  have h3 : (Lib.join (l.map fun x => x.data.toList) (⟨#[32]⟩ : ByteArray).data.toList).length = (joinB l ⟨#[32]⟩).size := by rw [← joinB_list]; rfl
  rw [grd_pos ⟨by omega, by rw [h3]; omega⟩, bnd1_mk]

theorem i_RecordText_eq {r : Rec} (h : r.sm) : i_RecordText r = some (recS r) := by
  have hz := recS_size h
  obtain ⟨h1, h2, h3⟩ := id h
  unfold i_RecordText
  rw [i_RecordOk_eq h, bnd1_mk]
  unfold recS at hz ⊢
  cases hp : recP r with
  | false => rw [if_neg (by simp)]; rfl
  | true =>
    rw [if_pos rfl]
    rw [hp, if_pos rfl] at hz
    obtain ⟨p1, p2, p3, p4⟩ := recP_t hp
    rw [Bool.not_true, cond_false, i_nameText_eq, bnd1_mk, i_NumText_eq (by omega), bnd1_mk, i_TypeText_eqS, bnd1_mk]
    unfold i_RecordText_j1
    generalize dotN r.name = a at hz ⊢
    generalize num r.ttl.toNat = b at hz ⊢
    generalize typS r.ty = c at hz ⊢
    have e3 := joinB_spc3 a b c
    by_cases c1 : r.ty = 1
    · rw [if_pos c1] at hz ⊢
      have e4 : joinB ([a, b, c] ++ [num r.n.toNat]) ⟨#[32]⟩ = spc (spc (spc a b) c) (num r.n.toNat) := by rw [joinB_spc (by simp), e3]
      rw [decide_eq_true c1, cond_true, i_NumText_eq (p2 c1), bnd1_mk, grd_pos (by simp), i_RecordText_j0_eq (by simp) (by rw [e4]; omega), e4]
    rw [if_neg c1] at hz ⊢
    rw [decide_eq_false c1, cond_false]
    by_cases c6 : r.ty = 6
    · rw [if_pos c6] at hz ⊢
      have e4 : joinB ([a, b, c] ++ [dotN r.host, num r.n.toNat]) ⟨#[32]⟩ = spc (spc (spc (spc a b) c) (dotN r.host)) (num r.n.toNat) := by
        rw [show [a, b, c] ++ [dotN r.host, num r.n.toNat] = ([a, b, c] ++ [dotN r.host]) ++ [num r.n.toNat] from rfl, joinB_spc (by simp), joinB_spc (by simp), e3]
      rw [decide_eq_false (show ¬ r.ty = 2 by omega), cond_false, decide_eq_false (show ¬ r.ty = 5 by omega), cond_false, decide_eq_true c6, cond_true, i_nameText_eq, bnd1_mk, i_NumText_eq (p3 c6), bnd1_mk, grd_pos (by simp), i_RecordText_j0_eq (by simp) (by rw [e4]; omega), e4]
    rw [if_neg c6] at hz ⊢
    by_cases c16 : r.ty = 16
    · rw [if_pos c16] at hz ⊢
      have e4 : joinB ([a, b, c] ++ [(⟨#[39]⟩ : ByteArray) ++ r.text]) ⟨#[32]⟩ = spc (spc (spc a b) c) (⟨#[39]⟩ ++ r.text) := by rw [joinB_spc (by simp), e3]
      rw [decide_eq_false (show ¬ r.ty = 2 by omega), cond_false, decide_eq_false (show ¬ r.ty = 5 by omega), cond_false, decide_eq_false c6, cond_false, decide_eq_true c16, cond_true, grd_pos (by show 1 + _ ≤ _; omega), grd_pos (by simp), i_RecordText_j0_eq (by simp) (by rw [e4]; omega), e4]
    · rw [if_neg c16] at hz ⊢
      have e4 : joinB ([a, b, c] ++ [dotN r.host]) ⟨#[32]⟩ = spc (spc (spc a b) c) (dotN r.host) := by rw [joinB_spc (by simp), e3]
      have hkey : (bnd1 (i_nameText r.host) (fun x15 => grd (([a, b, c] ++ [x15]).length ≤ 1099511627776) (i_RecordText_j0 ([a, b, c] ++ [x15])))) = some (spc (spc (spc a b) c) (dotN r.host)) := by
        rw [i_nameText_eq, bnd1_mk, grd_pos (by simp), i_RecordText_j0_eq (by simp) (by rw [e4]; omega), e4]
      by_cases c2 : r.ty = 2
      · rw [decide_eq_true c2, cond_true, cond_true]; exact hkey
      · rw [decide_eq_false c2, cond_false, decide_eq_true (show r.ty = 5 by omega), cond_true]; exact hkey

theorem s_RecordText_eq {r : Rec} (h : r.sm) : s_RecordText r = some (recS r) := by
  have hz := recS_size h
  obtain ⟨h1, h2, h3⟩ := id h
  unfold s_RecordText
  rw [s_RecordOk_eq h, bnd1_mk]
  unfold recS at hz ⊢
  cases hp : recP r with
  | false => rw [if_neg (by simp)]; rfl
  | true =>
    rw [if_pos rfl]
    rw [hp, if_pos rfl] at hz
    obtain ⟨p1, p2, p3, p4⟩ := recP_t hp
    have a1 := dotN_size r.name
    have a2 := dotN_size r.host
    have a3 := num_size r.ttl.toNat
    have a4 := num_size r.n.toNat
    have a5 := typS_size r.ty
    have one : (⟨#[32]⟩ : ByteArray).size = 1 := rfl
    have one2 : (⟨#[39]⟩ : ByteArray).size = 1 := rfl
    simp only [s_l5Dot_eq, bnd1_mk, s_NumText_eq (show 0 ≤ r.ttl ∧ r.ttl ≤ 2147483647 by omega), s_TypeText_eq]
    generalize dotN r.name = a at hz a1 ⊢
    generalize num r.ttl.toNat = b at hz a3 ⊢
    generalize typS r.ty = c at hz a5 ⊢
    rw [grd_pos (by omega), grd_pos (by simp only [size_app]; omega), grd_pos (by simp only [size_app]; omega), grd_pos (by simp only [size_app]; omega), grd_pos (by simp only [size_app]; omega)]
    by_cases c1 : r.ty = 1
    · have := p2 c1
      rw [if_pos c1]
      rw [decide_eq_true c1, cond_true, s_NumText_eq (p2 c1), bnd1_mk, grd_pos (by simp only [size_app]; omega)]; rfl
    rw [if_neg c1, decide_eq_false c1, cond_false]
    by_cases c6 : r.ty = 6
    · have := p3 c6
      rw [if_pos c6]
      rw [decide_eq_true c6, cond_true, grd_pos (by simp only [size_app]; omega), grd_pos (by simp only [size_app]; omega), s_NumText_eq (p3 c6), bnd1_mk, grd_pos (by simp only [size_app]; omega)]; rfl
    rw [if_neg c6, decide_eq_false c6, cond_false]
    by_cases c16 : r.ty = 16
    · rw [if_pos c16]
      rw [decide_eq_true c16, cond_true, grd_pos (by simp only [size_app]; omega), grd_pos (by simp only [size_app]; omega)]
      rw [Bool.not_true, cond_false]
      congr 1
      apply ba_ext; simp only [spc, ba_app, List.append_assoc]
    · rw [if_neg c16]
      rw [decide_eq_false c16, cond_false, grd_pos (by simp only [size_app]; omega)]; rfl

def semi : ByteArray := ⟨#[59, 32]⟩

def textsS (acc : ByteArray) (l : List Rec) : ByteArray := l.foldl (fun a r => a ++ (semi ++ recS r)) acc

theorem textsS_size : ∀ (l : List Rec) (acc : ByteArray), (∀ r, r ∈ l → r.sm) → (textsS acc l).size ≤ acc.size + 4300000002 * l.length
  | [], acc, _ => Nat.le_refl _
  | r :: l, acc, h => by
    have ih := textsS_size l (acc ++ (semi ++ recS r)) fun q hq => h q (.tail _ hq)
    have h2 := recS_size (h r (.head _))
    rw [size_app, size_app] at ih
    have h3 : semi.size = 2 := rfl
    show (textsS (acc ++ (semi ++ recS r)) l).size ≤ _
    simp only [List.length_cons]
    omega

theorem textsS_app (l : List Rec) : ∀ acc : ByteArray, textsS acc l = acc ++ textsS ⟨#[]⟩ l := by
  induction l with
  | nil => intro acc; apply ba_ext; rw [ba_app]; simp [textsS]
  | cons r l ih =>
    intro acc
    show textsS (acc ++ (semi ++ recS r)) l = acc ++ textsS (⟨#[]⟩ ++ (semi ++ recS r)) l
    rw [ih, ih (⟨#[]⟩ ++ _)]
    apply ba_ext; simp only [ba_app, List.append_assoc, nil_app]

theorem s_l7Texts_l0_eq : ∀ (l : List Rec) (acc : ByteArray) (i : Nat), (∀ r, r ∈ l → r.sm) → acc.size + 4300000002 * l.length ≤ 9223372036854775807 → s_l7Texts_l0 l acc i = some (textsS acc l)
  | [], acc, i, _, _ => rfl
  | r :: l, acc, i, h, hs => by
    simp only [List.length_cons] at hs
    have h2 := recS_size (h r (.head _))
    have h3 : (⟨#[59, 32]⟩ : ByteArray).size = 2 := rfl
    have e : (acc ++ (⟨#[59, 32]⟩ : ByteArray)) ++ recS r = acc ++ (semi ++ recS r) := by apply ba_ext; simp only [ba_app, List.append_assoc]; rfl
    rw [s_l7Texts_l0, grd_pos (by omega), s_RecordText_eq (h r (.head _)), bnd1_mk, grd_pos (by rw [size_app]; omega), e]
    exact s_l7Texts_l0_eq l _ _ (fun q hq => h q (.tail _ hq)) (by rw [size_app, size_app]; show acc.size + (2 + _) + _ ≤ _; omega)

theorem i_FactText_l1_eq : ∀ (l : List Rec) (acc : ByteArray) (i : Nat), (∀ r, r ∈ l → r.sm) → acc.size + 4300000002 * l.length ≤ 9223372036854775807 → i_FactText_l1 l acc i = some (textsS acc l)
  | [], acc, i, _, _ => rfl
  | r :: l, acc, i, h, hs => by
    simp only [List.length_cons] at hs
    have h2 := recS_size (h r (.head _))
    have h3 : (⟨#[59, 32]⟩ : ByteArray).size = 2 := rfl
    rw [i_FactText_l1, i_RecordText_eq (h r (.head _)), bnd1_mk, grd_pos (by omega), grd_pos (by rw [size_app]; omega)]
    exact i_FactText_l1_eq l _ _ (fun q hq => h q (.tail _ hq)) (by rw [size_app, size_app]; show acc.size + (2 + _) + _ ≤ _; omega)

theorem slices_Grow_eq {n : Int} (h : 0 ≤ n ∧ n ≤ 1000000000) : slices_Grow_Record n = some [] := by
  unfold slices_Grow_Record
  rw [decide_eq_false (by omega), cond_false, grd_pos (by simp only [i64]; omega)]
  by_cases c : 0 < n - 0
  · rw [decide_eq_true c, cond_true, grd_pos (by omega), grd_pos ⟨by omega, by omega, by omega⟩]; simp
  · rw [decide_eq_false c]; rfl

theorem slices_Concat_eq {a b : List Rec} (ha : a.length ≤ 1048576) (hb : b.length ≤ 1048576) : slices_Concat_Record [a, b] = some (a ++ b) := by
  unfold slices_Concat_Record
  rw [slices_Concat_Record_l1, grd_pos (by simp only [i64]; omega), decide_eq_false (by omega), cond_false, slices_Concat_Record_l1, grd_pos (by simp only [i64]; omega), decide_eq_false (by omega), cond_false, slices_Concat_Record_l1]
  unfold slices_Concat_Record_j0
  rw [slices_Grow_eq (by omega), bnd1_mk, slices_Concat_Record_l2, List.nil_append, grd_pos (by omega), slices_Concat_Record_l2, grd_pos (by rw [List.length_append]; omega), slices_Concat_Record_l2]

def factS (x : MFact) (k : ByteArray) : ByteArray := textsS k (x.links ++ x.l)

theorem factText_same {x : MFact} (h : x.sm) : ∃ v, s_FactText x = some v ∧ i_FactText x = some v := by
  obtain ⟨⟨h1, h2⟩, h3, h4⟩ := h
  have hall : ∀ r, r ∈ x.links ++ x.l → r.sm := fun r hr => by
    rcases List.mem_append.1 hr with hr | hr
    · exact h2 r hr
    · exact h4 r hr
  have hkey : ∀ k : ByteArray, k.size ≤ 10 → s_FactText_j0 x k = some (factS x k) ∧ i_FactText_j0 x k = some (factS x k) := fun k hk => by
    have z1 := textsS_size x.links ⟨#[]⟩ h2
    have z2 := textsS_size x.l ⟨#[]⟩ h4
    have nz : (⟨#[]⟩ : ByteArray).size = 0 := rfl
    constructor
    · unfold s_FactText_j0 s_l7Texts factS
      rw [s_l7Texts_l0_eq _ _ _ h2 (by omega), bnd1_mk, grd_pos (by omega), s_l7Texts_l0_eq _ _ _ h4 (by omega), bnd1_mk, grd_pos (by rw [size_app]; omega)]
      unfold textsS
      rw [List.foldl_append]
      show some ((k ++ textsS ⟨#[]⟩ x.links) ++ textsS ⟨#[]⟩ x.l) = some (textsS (textsS k x.links) x.l)
      rw [textsS_app x.l (textsS k x.links), textsS_app x.links k]
    · unfold i_FactText_j0 factS
      rw [slices_Concat_eq h1 h3, bnd1_mk, i_FactText_l1_eq _ _ _ hall (by rw [List.length_append]; omega)]
  have k5 := hkey ⟨#[110, 111, 110, 97, 109, 101]⟩ (by show (6 : Nat) ≤ 10; omega)
  have k6 := hkey ⟨#[110, 111, 100, 97, 116, 97]⟩ (by show (6 : Nat) ≤ 10; omega)
  have k7 := hkey ⟨#[115, 101, 116]⟩ (by show (3 : Nat) ≤ 10; omega)
  unfold s_FactText i_FactText
  rw [k5.1, k5.2, k6.1, k6.2, k7.1, k7.2]
  cases x.fin
  · exact ⟨_, rfl, rfl⟩
  · cases decide (x.code = 3)
    · cases decide ((x.l.length : Int) = 0) <;> exact ⟨_, rfl, rfl⟩
    · exact ⟨_, rfl, rfl⟩

theorem law_FactText {x : MFact} (hx : x.ok) : w_FnExactFactText x = some true := by
  unfold w_FnExactFactText
  obtain ⟨v, h3, h4, h5⟩ := w_szFact_p hx (n := 1048576) (by omega)
  rw [h3]
  by_cases c : v < 0
  · simp [c]
  · have h6 := h5 (by omega)
    obtain ⟨t, t1, t2⟩ := factText_same h6
    simp [c, w_toFact_eq h6, t1, t2, w_eqFact_self]
end Go.Abs.M
