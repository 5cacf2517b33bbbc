/- The pure law of Keep: its pure function answers true. -/
import Derived.Test.YtcdpmfnjajjlkaaDoorFnsKeep
set_option linter.unusedSimpArgs false
set_option linter.unusedVariables false
namespace Go.Abs.M
open Go Go.Abs
theorem idx_nat {α : Type} {l : List α} {n : Nat} : idx l (n : Int) = l[n]? := by simp [idx]

theorem w_toRecord_eq {r : Rec} : w_toRecord r = some r := rfl

theorem w_toRecordS_l0_eq : ∀ (t pre : List Rec) (z : List Rec), z.length = t.length → w_toRecordS_l0 t (pre ++ z) pre.length = some (pre ++ t)
  | [], pre, z, hz => by cases z with | nil => rfl | cons a b => simp at hz
  | r :: t, pre, z, hz => by
    cases z with
    | nil => simp at hz
    | cons a z =>
      rw [w_toRecordS_l0]
      have := w_toRecordS_l0_eq t (pre ++ [r]) z (by simpa using hz)
      simp only [w_toRecord_eq, bnd1_mk, idx_nat]
      simp [bnd1] at this ⊢
      simpa using this

theorem w_toRecordS_eq {l : List Rec} (h : l.length ≤ 1099511627776) : w_toRecordS l = some l := by
  unfold w_toRecordS
  rw [grd_pos (by omega)]
  have := w_toRecordS_l0_eq l [] (List.replicate l.length ⟨⟨#[]⟩, 0, 0, 0, ⟨#[]⟩, ⟨#[]⟩⟩) (by simp)
  simpa using this

theorem w_eqRecord_self {a : Rec} : w_eqRecord a a = some true := by unfold w_eqRecord; simp

theorem w_eqRecordS_l0_self : ∀ (t pre : List Rec), w_eqRecordS_l0 (pre ++ t) t pre.length = some true
  | [], pre => rfl
  | r :: t, pre => by
    rw [w_eqRecordS_l0]
    have := w_eqRecordS_l0_self t (pre ++ [r])
    simp only [idx_nat]
    simp [w_eqRecord_self] at this ⊢
    exact this

theorem w_eqRecordS_self {l : List Rec} : w_eqRecordS l l = some true := by
  unfold w_eqRecordS
  have := w_eqRecordS_l0_self l []
  simpa using this

def zrec : Rec := ⟨⟨#[]⟩, 0, 0, 0, ⟨#[]⟩, ⟨#[]⟩⟩

def first (p : Rec → Bool) (l : List Rec) : Rec := (l.find? p).getD zrec

theorem w_toQuest_eq {q : Quest} : w_toQuest q = some q := rfl

theorem w_eqQuest_self {q : Quest} : w_eqQuest q q = some true := by unfold w_eqQuest; simp

def setOf (l : List Rec) (nm : ByteArray) (k : Int) : List Rec := l.filter fun r => decide (r.name = nm) && decide (r.ty = k)

theorem i_SetOf_l0_eq (nm : ByteArray) (k : Int) : ∀ (l out : List Rec) (i : Nat), out.length + l.length ≤ 1099511627776 → i_SetOf_l0 nm k l out i = some (out ++ setOf l nm k)
  | [], out, i, _ => by simp [i_SetOf_l0, setOf]
  | r :: l, out, i, h => by
    simp only [List.length_cons] at h
    have h1 := i_SetOf_l0_eq nm k l (out ++ [r]) (i + 1) (by simp; omega)
    have h2 := i_SetOf_l0_eq nm k l out (i + 1) (by omega)
    rw [i_SetOf_l0]
    by_cases c : r.name = nm <;> by_cases c' : r.ty = k <;> simp [i_SetOf_j1, c, c', h2, setOf] <;> first
      | (rw [grd_pos (by omega), h1]; simp [setOf, c, c'])

def Rec.sm (r : Rec) : Prop := r.name.size ≤ 1048576 ∧ r.host.size ≤ 1048576 ∧ r.text.size ≤ 1048576

def smL (l : List Rec) : Prop := l.length ≤ 1048576 ∧ ∀ r, r ∈ l → r.sm

def okL (l : List Rec) : Prop := l.length ≤ 9223372036854775807 ∧ ∀ r, r ∈ l → r.ok

theorem w_szRecord_p {r : Rec} {n : Int} (hr : r.ok) (hn : 0 ≤ n ∧ n ≤ 1048576) : ∃ v, w_szRecord r n = some v ∧ v ≤ n ∧ (0 ≤ v → r.sm) := by
  obtain ⟨h1, -, -, -, h2, h3⟩ := hr
  unfold w_szRecord Rec.sm
  rw [grd_pos (by simp only [i64]; omega)]
  by_cases c1 : n - (r.name.size : Int) < 0
  · exact ⟨-1, by simp [c1], by omega, by omega⟩
  · simp only [c1, decide_false, cond_false]
    rw [grd_pos (by simp only [i64]; omega)]
    by_cases c2 : n - (r.name.size : Int) - (r.host.size : Int) < 0
    · exact ⟨-1, by simp [c2], by omega, by omega⟩
    · simp only [c2, decide_false, cond_false]
      rw [grd_pos (by simp only [i64]; omega)]
      by_cases c3 : n - (r.name.size : Int) - (r.host.size : Int) - (r.text.size : Int) < 0
      · exact ⟨-1, by simp [c3], by omega, by omega⟩
      · exact ⟨_, by simp only [c3, decide_false, cond_false]; rfl, by omega, by omega⟩

theorem w_szRecordS_l0_p : ∀ (l : List Rec) (n : Int) (i : Nat), (∀ r, r ∈ l → r.ok) → 0 ≤ n ∧ n ≤ 1048576 → ∃ v, w_szRecordS_l0 l n i = some v ∧ v ≤ n ∧ (0 ≤ v → ∀ r, r ∈ l → r.sm)
  | [], n, i, _, _ => ⟨n, rfl, Int.le_refl _, fun _ r hr => by cases hr⟩
  | r :: l, n, i, hr, hn => by
    obtain ⟨v, h1, h2, h2'⟩ := w_szRecord_p (hr r (.head _)) hn
    rw [w_szRecordS_l0, h1]
    by_cases c : v < 0
    · exact ⟨-1, by simp [c], by omega, by omega⟩
    · obtain ⟨w, h3, h4, h5⟩ := w_szRecordS_l0_p l v (i + 1) (fun q hq => hr q (.tail _ hq)) (by omega)
      exact ⟨w, by simp [c, h3], by omega, fun h q hq => by
        cases hq with
        | head => exact h2' (by omega)
        | tail _ hq => exact h5 h q hq⟩

theorem w_szRecordS_p {l : List Rec} {n : Int} (hl : okL l) (hn : 0 ≤ n ∧ n ≤ 1048576) : ∃ v, w_szRecordS l n = some v ∧ v ≤ n ∧ (0 ≤ v → smL l) := by
  obtain ⟨h0, hr⟩ := hl
  unfold w_szRecordS
  rw [grd_pos (by simp only [i64]; omega)]
  by_cases c : n - (l.length : Int) < 0
  · exact ⟨-1, by simp [c], by omega, by omega⟩
  · obtain ⟨v, h1, h2, h3⟩ := w_szRecordS_l0_p l (n - l.length) 0 hr (by omega)
    exact ⟨v, by simp [c, h1], by omega, fun h => ⟨by omega, h3 h⟩⟩

def Quest.sm (q : Quest) : Prop := q.name.size ≤ 1048576

theorem w_szQuest_p {q : Quest} {n : Int} (hq : q.ok) (hn : 0 ≤ n ∧ n ≤ 1048576) : ∃ v, w_szQuest q n = some v ∧ v ≤ n ∧ (0 ≤ v → q.sm) := by
  obtain ⟨h1, -⟩ := hq
  unfold w_szQuest Quest.sm
  rw [grd_pos (by simp only [i64]; omega)]
  by_cases c1 : n - (q.name.size : Int) < 0
  · exact ⟨-1, by simp [c1], by omega, by omega⟩
  · exact ⟨_, by simp only [c1, decide_false, cond_false]; rfl, by omega, by omega⟩

theorem i_SetOf_eq {l : List Rec} {nm : ByteArray} {k : Int} (h : smL l) : i_SetOf l nm k = some (setOf l nm k) := by
  unfold i_SetOf; rw [i_SetOf_l0_eq _ _ _ _ _ (by have := h.1; simp; omega)]; rfl

def mkB (l : List UInt8) : ByteArray := ⟨l.toArray⟩

def bts (s : ByteArray) : List UInt8 := s.data.toList

theorem bts_mkB (l : List UInt8) : bts (mkB l) = l := rfl

theorem mkB_bts (s : ByteArray) : mkB (bts s) = s := rfl

theorem bts_len (s : ByteArray) : (bts s).length = s.size := rfl

theorem bts_inj {a b : ByteArray} : bts a = bts b ↔ a = b := ⟨fun h => by rw [← mkB_bts a, ← mkB_bts b, h], fun h => by rw [h]⟩

theorem bts_nil_iff (s : ByteArray) : s = ⟨#[]⟩ ↔ bts s = [] := ⟨fun h => by subst h; rfl, fun h => bts_inj.1 (by rw [h]; rfl)⟩

theorem bts_extract (s : ByteArray) (a b : Nat) : bts (s.extract a b) = ((bts s).drop a).take (b - a) := by
  unfold bts
  rw [ByteArray.data_extract, Array.toList_extract, List.extract_eq_take_drop]

theorem extract_mkB (s : ByteArray) (a b : Nat) : s.extract a b = mkB (((bts s).drop a).take (b - a)) := by
  rw [← mkB_bts (s.extract a b), bts_extract]

theorem sidx_nat {s : ByteArray} {n : Nat} {b : UInt8} (h : (bts s)[n]? = some b) : sidx s (n : Int) = some (b.toNat : Int) := by
  obtain ⟨h1, h2⟩ := List.getElem?_eq_some_iff.1 h
  have h3 : n < s.size := h1
  unfold sidx
  rw [dif_pos ⟨by omega, by simpa using h3⟩]
  subst h2
  rfl

/-- The parts of bytes between the dots. -/
def segs : List UInt8 → List UInt8 → List (List UInt8)
  | cur, [] => [cur]
  | cur, b :: l => if b = 46 then cur :: segs [] l else segs (cur ++ [b]) l

def labels (s : ByteArray) : List ByteArray := if bts s = [] then [] else (segs [] (bts s)).map mkB

theorem segs_len : ∀ (l cur : List UInt8), (segs cur l).length ≤ l.length + 1
  | [], cur => by simp [segs]
  | b :: l, cur => by
    unfold segs
    split
    · have := segs_len l []; simp; omega
    · have := segs_len l (cur ++ [b]); simp; omega

theorem u8_eq46 (b : UInt8) : ((b.toNat : Int) = 46) ↔ b = 46 := by
  constructor
  · intro h
    have : b.toNat = 46 := by omega
    exact UInt8.toNat_inj.1 this
  · intro h; subst h; rfl

/-- The loop of the reference's Labels: from the place i on, the part having begun at the place f. -/
theorem s_Labels_l0_eq (s : ByteArray) (hs : s.size ≤ 1048576) (hne : s ≠ ⟨#[]⟩) : ∀ (k : Nat) (i f fl : Nat) (out : List ByteArray), s.size - i = k → f ≤ i → i ≤ s.size → out.length ≤ f → k + 1 < fl →
    s_Labels_l0 s fl out (f : Int) (i : Int) = some (out ++ (segs (((bts s).drop f).take (i - f)) ((bts s).drop i)).map mkB)
  | 0, i, f, fl, out, hk, hfi, hi, ho, hfl => by
    obtain ⟨fl, rfl⟩ : ∃ q, fl = q + 1 := ⟨fl - 1, by omega⟩
    obtain ⟨fl, rfl⟩ : ∃ q, fl = q + 1 := ⟨fl - 1, by omega⟩
    have hie : i = s.size := by omega
    rw [s_Labels_l0]
    have e1 : (bts s).drop i = [] := List.drop_eq_nil_of_le (by rw [bts_len]; omega)
    rw [e1]
    simp only [segs, List.map_cons, List.map_nil]
    have c1 : decide ((i : Int) ≤ (s.size : Int)) = true := by simpa using hi
    have c2 : (!decide (s = (⟨#[]⟩ : ByteArray))) = true := by simpa using hne
    rw [c1, c2, cond_true, s_Labels_j1, cond_true]
    have c3 : decide ((i : Int) = (s.size : Int)) = true := by simp [hie]
    rw [c3, cond_true, s_Labels_j2, cond_true, grd_pos (by omega), grd_pos (by simp; omega), grd_pos (by simp only [i64]; omega), grd_pos (by simp only [i64]; omega), s_Labels_l0]
    have c4 : decide ((i : Int) + 1 ≤ (s.size : Int)) = false := by simp; omega
    rw [c4, cond_false, s_Labels_j1, cond_false, extract_mkB]
    simp
  | k + 1, i, f, fl, out, hk, hfi, hi, ho, hfl => by
    obtain ⟨fl, rfl⟩ : ∃ q, fl = q + 1 := ⟨fl - 1, by omega⟩
    have hlt : i < (bts s).length := by rw [bts_len]; omega
    rw [s_Labels_l0]
    have c1 : decide ((i : Int) ≤ (s.size : Int)) = true := by simpa using hi
    have c2 : (!decide (s = (⟨#[]⟩ : ByteArray))) = true := by simpa using hne
    rw [c1, c2, cond_true, s_Labels_j1, cond_true]
    have c3 : decide ((i : Int) = (s.size : Int)) = false := by simp; omega
    have hb : (bts s)[i]? = some (bts s)[i] := List.getElem?_eq_getElem hlt
    rw [c3, cond_false, sidx_nat hb, bnd1_mk, List.drop_eq_getElem_cons hlt, segs]
    have e2 : ((i : Int) + 1) = ((i + 1 : Nat) : Int) := by omega
    by_cases c : (bts s)[i] = 46
    · rw [if_pos c]
      have c5 : decide ((((bts s)[i]).toNat : Int) = 46) = true := by simpa using (u8_eq46 _).2 c
      rw [c5, s_Labels_j2, cond_true, grd_pos (by omega), grd_pos (by simp; omega), grd_pos (by simp only [i64]; omega), grd_pos (by simp only [i64]; omega), e2,
        s_Labels_l0_eq s hs hne k (i + 1) (i + 1) fl _ (by omega) (by omega) (by omega) (by simp; omega) (by omega), extract_mkB]
      simp
    · rw [if_neg c]
      have c5 : decide ((((bts s)[i]).toNat : Int) = 46) = false := by
        have := fun h => c ((u8_eq46 _).1 h)
        simpa using this
      rw [c5, s_Labels_j2, cond_false, grd_pos (by simp only [i64]; omega), e2, s_Labels_l0_eq s hs hne k (i + 1) f fl _ (by omega) (by omega) (by omega) ho (by omega)]
      have e3 : ((bts s).drop f).take (i + 1 - f) = ((bts s).drop f).take (i - f) ++ [(bts s)[i]] := by
        rw [show i + 1 - f = (i - f) + 1 by omega, List.take_add_one]
        congr 1
        rw [List.getElem?_drop, show f + (i - f) = i by omega, hb]
        rfl
      rw [e3]

theorem s_Labels_eq {s : ByteArray} (hs : s.size ≤ 1048576) : s_Labels s = some (labels s) := by
  unfold s_Labels
  by_cases hne : s = ⟨#[]⟩
  · subst hne
    have : fuel0 = 4611686018427387903 + 1 := rfl
    rw [this, s_Labels_l0]
    rfl
  · have h := s_Labels_l0_eq s hs hne s.size 0 0 fuel0 [] (by omega) (by omega) (by omega) (by simp) (by unfold fuel0; omega)
    have e : bts s ≠ [] := fun h => hne ((bts_nil_iff s).2 h)
    simpa [labels, e] using h

theorem indexByte_none : ∀ {l : List UInt8}, Lib.indexByte l 46 = -1 → ∀ cur, segs cur l = [cur ++ l]
  | [], _, cur => by simp [segs]
  | b :: l, h, cur => by
    unfold Lib.indexByte at h
    by_cases c : b = 46
    · subst c; simp at h
    · have hb : (b == (46 : UInt8)) = false := by simpa using c
      rw [hb] at h
      simp only [Bool.false_eq_true, if_false] at h
      by_cases c' : Lib.indexByte l 46 = -1
      · rw [segs, if_neg c, indexByte_none c']; simp
      · have h1 := Lib.indexByte_ge l 46
        rw [if_neg (by simpa using c')] at h
        omega

theorem indexByte_some : ∀ {l : List UInt8} {k : Nat}, Lib.indexByte l 46 = (k : Int) → k < l.length ∧ ∀ cur, segs cur l = (cur ++ l.take k) :: segs [] (l.drop (k + 1))
  | [], k, h => by simp [Lib.indexByte] at h
  | b :: l, k, h => by
    unfold Lib.indexByte at h
    by_cases c : b = 46
    · subst c
      simp at h
      have : k = 0 := by omega
      subst this
      exact ⟨by simp, fun cur => by simp [segs]⟩
    · have hb : (b == (46 : UInt8)) = false := by simpa using c
      rw [hb] at h
      simp only [Bool.false_eq_true, if_false] at h
      have h1 := Lib.indexByte_ge l 46
      by_cases c' : Lib.indexByte l 46 = -1
      · rw [if_pos (by simpa using c')] at h; omega
      · rw [if_neg (by simpa using c')] at h
        obtain ⟨q, rfl⟩ : ∃ q, k = q + 1 := ⟨k - 1, by omega⟩
        obtain ⟨h2, h3⟩ := indexByte_some (l := l) (k := q) (by omega)
        exact ⟨by simp; omega, fun cur => by rw [segs, if_neg c, h3]; simp⟩

theorem count_segs : ∀ (l cur : List UInt8), (segs cur l).length = Lib.countByte l 46 + 1
  | [], cur => by simp [segs, Lib.countByte]
  | b :: l, cur => by
    unfold segs
    by_cases c : b = 46
    · subst c; rw [if_pos rfl, List.length_cons, count_segs l []]; simp [Lib.countByte]
    · rw [if_neg c, count_segs l]; simp [Lib.countByte, c]

theorem dotB : (⟨#[46]⟩ : ByteArray).size = 1 := rfl

theorem dot_sidx : sidx (⟨#[46]⟩ : ByteArray) 0 = some 46 := rfl

theorem strings_Index_dot {s : ByteArray} : strings_Index s ⟨#[46]⟩ = some (if s = ⟨#[46]⟩ then 0 else Lib.indexByte (bts s) 46) := by
  unfold strings_Index internal_stringslite_Index
  rw [dotB]
  by_cases c : s = ⟨#[46]⟩
  · subst c; simp [internal_stringslite_Index_j0]
  · have c' : ¬ ((⟨#[46]⟩ : ByteArray) = s) := fun h => c h.symm
    simp [internal_stringslite_Index_j0, c, c', dotB, dot_sidx, internal_stringslite_IndexByte]
    rfl

theorem strings_Index_dot' {s : ByteArray} : strings_Index s ⟨#[46]⟩ = some (Lib.indexByte (bts s) 46) := by
  rw [strings_Index_dot]
  by_cases c : s = ⟨#[46]⟩
  · subst c; rfl
  · rw [if_neg c]

theorem segs_pos (cur l : List UInt8) : 1 ≤ (segs cur l).length := by rw [count_segs]; omega

theorem idx_cases (l : List UInt8) : Lib.indexByte l 46 = -1 ∨ ∃ k : Nat, Lib.indexByte l 46 = (k : Int) := by
  have h := Lib.indexByte_ge l 46
  rcases Int.lt_or_le (Lib.indexByte l 46) 0 with h1 | h1
  · exact .inl (by omega)
  · exact .inr ⟨(Lib.indexByte l 46).toNat, by omega⟩

theorem genSplit_j1_eq {r : ByteArray} {a : List ByteArray} {i : Nat} (hi : i < a.length) (ha : a.length ≤ 1099511627776) : strings_genSplit_j1 r a (i : Int) = some (a.take i ++ [r]) := by
  unfold strings_genSplit_j1
  rw [idx_nat, List.getElem?_eq_getElem hi, bnd1_mk, grd_pos (by simp only [i64]; omega), grd_pos (by omega)]
  congr 1
  have e : ((i : Int) + 1).toNat - ((0 : Nat) : Int).toNat = i + 1 := by omega
  have e2 : (0 + ((0 : Nat) : Int).toNat) = 0 := by omega
  rw [e, e2, List.drop_zero, Int.toNat_natCast, List.take_add_one, List.take_set_of_le (Nat.le_refl i), List.getElem?_set_self hi]
  rfl

theorem genSplit_l2_eq (p0 : ByteArray) (j : Int) (n : Nat) (hj : (if (p0.size : Int) + 1 < j then (p0.size : Int) + 1 else j) - 1 = (n : Int)) : ∀ (k i fl : Nat) (r : ByteArray) (a : List ByteArray), n - i = k → i ≤ n → k < fl → a.length = n + 1 → a.length ≤ 1099511627776 → (segs [] (bts r)).length = n + 1 - i → r.size ≤ 1048576 →
    strings_genSplit_l2 p0 ⟨#[46]⟩ 0 j fl r a (i : Int) = some (a.take i ++ (segs [] (bts r)).map mkB)
  | 0, i, fl, r, a, hk, hi, hf, ha, ha', hs, hr => by
    obtain ⟨fl, rfl⟩ : ∃ q, fl = q + 1 := ⟨fl - 1, by omega⟩
    have hin : i = n := by omega
    rw [strings_genSplit_l2, hj]
    have c : decide ((i : Int) < (n : Int)) = false := by simp; omega
    rw [c, cond_false, genSplit_j1_eq (by omega) ha']
    rcases idx_cases (bts r) with h | ⟨q, h⟩
    · rw [indexByte_none h]; rfl
    · have h1 := (indexByte_some h).2 []
      have h2 := segs_pos [] ((bts r).drop (q + 1))
      rw [h1] at hs
      simp only [List.length_cons] at hs
      omega
  | k + 1, i, fl, r, a, hk, hi, hf, ha, ha', hs, hr => by
    obtain ⟨fl, rfl⟩ : ∃ q, fl = q + 1 := ⟨fl - 1, by omega⟩
    rw [strings_genSplit_l2, hj]
    have c : decide ((i : Int) < (n : Int)) = true := by simp; omega
    rw [c, cond_true, strings_Index_dot', bnd1_mk]
    rcases idx_cases (bts r) with h | ⟨q, h⟩
    · rw [indexByte_none h] at hs
      simp at hs
      omega
    · obtain ⟨h1, h2⟩ := indexByte_some h
      have h2 := h2 []
      rw [bts_len] at h1
      have hi' : i < a.length := by omega
      rw [h, dotB]
      have c' : decide ((q : Int) < 0) = false := by simp
      have e1 : ((i : Int) + 1) = ((i + 1 : Nat) : Int) := by omega
      rw [c', cond_false, grd_pos (by simp only [i64]; omega), grd_pos (by omega), idx_nat, List.getElem?_eq_getElem hi', bnd1_mk, grd_pos (by simp only [i64]; omega), grd_pos (by omega), grd_pos (by simp only [i64]; omega), e1]
      have e2 : bts (r.extract ((q : Int) + ((1 : Nat) : Int)).toNat (r.size : Int).toNat) = (bts r).drop (q + 1) := by
        rw [bts_extract]
        have e3 : ((q : Int) + ((1 : Nat) : Int)).toNat = q + 1 := by omega
        rw [e3, List.take_of_length_le (by rw [List.length_drop, bts_len]; omega)]
      rw [h2, List.length_cons] at hs
      rw [genSplit_l2_eq p0 j n hj k (i + 1) fl _ _ (by omega) (by omega) (by omega) (by simp [ha]) (by simp [ha']) (by rw [e2]; omega) (by rw [ByteArray.size_extract]; omega), e2, h2]
      congr 1
      rw [Int.toNat_natCast, List.take_add_one, List.take_set_of_le (Nat.le_refl i), List.getElem?_set_self hi', extract_mkB]
      have e4 : ((q : Int) + 0).toNat - ((0 : Nat) : Int).toNat = q := by omega
      rw [e4]
      simp

theorem strings_Count_dot {s : ByteArray} : strings_Count s ⟨#[46]⟩ = some ((Lib.countByte (bts s) 46 : Nat) : Int) := by
  unfold strings_Count
  have c1 : decide (((⟨#[46]⟩ : ByteArray).size : Int) = 0) = false := by rw [dotB]; decide
  have c2 : decide (((⟨#[46]⟩ : ByteArray).size : Int) = 1) = true := by rw [dotB]; decide
  have h46 : (46 : Int).toNat.toUInt8 = 46 := by decide
  rw [c1, cond_false, c2, cond_true, dot_sidx, bnd1_mk, h46]
  rfl

theorem i_Labels_eq {s : ByteArray} (hs : s.size ≤ 1048576) : i_Labels s = some (labels s) := by
  unfold i_Labels
  by_cases hne : s = ⟨#[]⟩
  · subst hne
    have e : bts (⟨#[]⟩ : ByteArray) = [] := rfl
    simp [labels, e]
  · have e : bts s ≠ [] := fun h => hne ((bts_nil_iff s).2 h)
    have hne' : ¬ ((⟨#[46]⟩ : ByteArray) = ⟨#[]⟩) := by decide
    have hc := count_segs (bts s) []
    have hl := segs_len (bts s) []
    rw [bts_len] at hl
    have e0 := strings_Count_dot (s := s)
    have hjj : (if (s.size : Int) + 1 < ((Lib.countByte (bts s) 46 : Nat) : Int) + 1 then (s.size : Int) + 1 else ((Lib.countByte (bts s) 46 : Nat) : Int) + 1) = ((Lib.countByte (bts s) 46 : Nat) : Int) + 1 := by rw [if_neg (by omega)]
    have hloop := genSplit_l2_eq s (((Lib.countByte (bts s) 46 : Nat) : Int) + 1) (Lib.countByte (bts s) 46) (by rw [hjj]; omega) (Lib.countByte (bts s) 46) 0 fuel0 s (List.replicate (((Lib.countByte (bts s) 46 : Nat) : Int) + 1).toNat ⟨#[]⟩) (by omega) (by omega) (by unfold fuel0; omega) (by simp) (by simp; omega) (by omega) hs
    have g0 : decide ((-1 : Int) = 0) = false := by decide
    have g1 : decide ((⟨#[46]⟩ : ByteArray) = ⟨#[]⟩) = false := decide_eq_false hne'
    have g2 : decide ((-1 : Int) < 0) = true := by decide
    rw [decide_eq_false hne, cond_false, strings_Split, strings_genSplit, g0, g1, g2, cond_false, cond_false, cond_true, e0, bnd1_mk, grd_pos (by simp only [i64]; omega), strings_genSplit_j0, hjj, grd_pos (by simp only [i64]; omega), grd_pos (by omega), grd_pos (by simp only [i64]; omega)]
    rw [Int.natCast_zero] at hloop
    rw [hloop, bnd1_mk, bnd1_mk]
    unfold labels
    rw [if_neg e, List.take_zero, List.nil_append]

theorem slices_IndexFunc_Record_l0_eq {g : Rec → Option Bool} {p : Rec → Bool} : ∀ (l : List Rec) (i : Nat), (∀ r, r ∈ l → g r = some (p r)) → ∃ v, slices_IndexFunc_Record_l0 g l i = some v ∧ decide (0 ≤ v) = l.any p
  | [], i, _ => ⟨-1, rfl, rfl⟩
  | r :: l, i, h => by
    rw [slices_IndexFunc_Record_l0, h r (.head _), bnd1_mk]
    cases c : p r with
    | true => exact ⟨i, rfl, by simp [c]⟩
    | false =>
      obtain ⟨v, h1, h2⟩ := slices_IndexFunc_Record_l0_eq l (i + 1) fun q hq => h q (.tail _ hq)
      exact ⟨v, h1, by simp [c, h2]⟩

theorem slices_ContainsFunc_Record_eq {g : Rec → Option Bool} {p : Rec → Bool} {l : List Rec} (h : ∀ r, r ∈ l → g r = some (p r)) : slices_ContainsFunc_Record l g = some (l.any p) := by
  obtain ⟨v, h1, h2⟩ := slices_IndexFunc_Record_l0_eq l 0 h
  unfold slices_ContainsFunc_Record slices_IndexFunc_Record
  rw [h1, bnd1_mk, h2]

theorem w_markText_l0_some : ∀ (k fl : Nat) (n : Int) (s : ByteArray), 0 ≤ n → n.toNat ≤ k → k < fl → (s.size : Int) + n ≤ 4611686018427387904 → ∃ t, w_markText_l0 fl n s = some t
  | k, fl, n, s, h0, hk, hf, hs => by
    obtain ⟨fl, rfl⟩ : ∃ q, fl = q + 1 := ⟨fl - 1, by omega⟩
    rw [w_markText_l0]
    have e1 : (⟨#[109]⟩ : ByteArray).size = 1 := rfl
    by_cases c : 0 < n
    · have e2 : ∀ x, (strOfNums [x]).size = 1 := fun _ => rfl
      have e3 : Int.tmod n 10 = n % 10 := Int.tmod_eq_emod_of_nonneg h0
      have e4 : Int.tdiv n 10 = n / 10 := Int.tdiv_eq_ediv_of_nonneg h0
      rw [decide_eq_true c, cond_true, grd_pos (by simp only [i64]; omega), grd_pos (by rw [e2]; omega), e4, wrap_id (by omega)]
      cases k with
      | zero => omega
      | succ k => exact w_markText_l0_some k fl (n / 10) _ (by omega) (by omega) (by omega) (by rw [ByteArray.size_append, e2]; omega)
    · rw [decide_eq_false c, cond_false, grd_pos (by rw [e1]; omega)]
      exact ⟨_, rfl⟩

def mkT (n : Int) : ByteArray := (w_markText n).getD ⟨#[]⟩

theorem w_markText_eq {n : Int} (h : n ≤ 4611686018427387900) : w_markText n = some (mkT n) := by
  have : ∃ t, w_markText n = some t := by
    unfold w_markText
    by_cases c : n ≤ 0
    · rw [decide_eq_true c]; exact ⟨_, rfl⟩
    · rw [decide_eq_false c, cond_false]
      exact w_markText_l0_some n.toNat fuel0 n _ (by omega) (Nat.le_refl _) (by unfold fuel0; omega) (by have : (⟨#[]⟩ : ByteArray).size = 0 := rfl; rw [this]; omega)
  obtain ⟨t, h1⟩ := this
  unfold mkT
  rw [h1]; rfl

theorem set_app {α : Type} (pre t : List α) (x y : α) : (pre ++ x :: t).set pre.length y = pre ++ y :: t := by simp

theorem get_app {α : Type} (pre t : List α) (x : α) : (pre ++ x :: t)[pre.length]? = some x := by simp

def mkR (n : Int) : Rec := ⟨mkT n, n + 1, n + 1 + 1, n + 1 + 1 + 1, mkT (n + 1 + 1 + 1 + 1), mkT (n + 1 + 1 + 1 + 1 + 1)⟩

def mkL : List Rec → Int → List Rec
  | [], _ => []
  | _ :: l, n => mkR n :: mkL l (n + 1 + 1 + 1 + 1 + 1 + 1)

theorem mkL_len : ∀ (l : List Rec) (n : Int), (mkL l n).length = l.length
  | [], _ => rfl
  | _ :: l, n => by simp [mkL, mkL_len l]

theorem w_markRecordS_l0_eq : ∀ (t pre : List Rec) (n : Int) (fl : Nat), t.length < fl → 0 ≤ n → n + 6 * t.length ≤ 4611686018427387800 → pre.length + t.length ≤ 1099511627776 →
    w_markRecordS_l0 fl (pre ++ t) n (pre.length : Int) = some (n + 6 * t.length, pre ++ mkL t n)
  | [], pre, n, fl, hf, h0, hn, hl => by
    obtain ⟨fl, rfl⟩ : ∃ q, fl = q + 1 := ⟨fl - 1, by simp at hf; omega⟩
    rw [w_markRecordS_l0]
    simp [mkL]
  | r :: t, pre, n, fl, hf, h0, hn, hl => by
    simp only [List.length_cons] at hf hn hl
    obtain ⟨fl, rfl⟩ : ∃ q, fl = q + 1 := ⟨fl - 1, by omega⟩
    have c : decide ((pre.length : Int) < ((pre ++ r :: t).length : Int)) = true := by simp; omega
    have e : ((pre.length : Int) + 1) = (((pre ++ [mkR n]).length : Nat) : Int) := by simp
    rw [w_markRecordS_l0, c, cond_true, w_markText_eq (by omega), bnd1_mk, idx_nat, get_app, bnd1_mk, grd_pos (by simp only [i64]; omega), grd_pos (by simp only [i64]; omega), grd_pos (by simp only [i64]; omega), grd_pos (by simp only [i64]; omega),
      w_markText_eq (by omega), bnd1_mk, grd_pos (by simp only [i64]; omega), w_markText_eq (by omega), bnd1_mk, grd_pos (by simp only [i64]; omega), grd_pos (by simp only [i64]; omega), Int.toNat_natCast]
    simp only [set_app]
    have h := w_markRecordS_l0_eq t (pre ++ [mkR n]) (n + 1 + 1 + 1 + 1 + 1 + 1) fl (by omega) (by omega) (by omega) (by simp; omega)
    rw [List.append_assoc, List.singleton_append] at h
    rw [e]
    unfold mkR at h ⊢
    rw [h, mkL]
    simp only [List.append_assoc, List.singleton_append, List.length_cons]
    congr 2
    omega

theorem w_markRecordS_eq {l : List Rec} {n : Int} (h0 : 0 ≤ n) (hn : n + 6 * l.length ≤ 4611686018427387800) (hl : l.length ≤ 1099511627776) : w_markRecordS l n = some (n + 6 * l.length, mkL l n) := by
  have := w_markRecordS_l0_eq l [] n fuel0 (by unfold fuel0; omega) h0 hn (by simpa using hl)
  simpa [w_markRecordS] using this

theorem w_heldRecordS_l0_eq : ∀ (t : List Rec) (n : Int) (i : Nat), 0 ≤ n → n + 6 * t.length ≤ 4611686018427387800 → w_heldRecordS_l0 (mkL t n) n i = some (n + 6 * t.length)
  | [], n, i, _, _ => by simp [mkL, w_heldRecordS_l0]
  | r :: t, n, i, h0, hn => by
    simp only [List.length_cons] at hn
    have h := w_heldRecordS_l0_eq t (n + 1 + 1 + 1 + 1 + 1 + 1) (i + 1) (by omega) (by omega)
    rw [mkL, w_heldRecordS_l0, w_markText_eq (by omega), bnd1_mk]
    simp only [mkR, decide_true, Bool.not_true, cond_false]
    rw [grd_pos (by simp only [i64]; omega), grd_pos (by simp only [i64]; omega), grd_pos (by simp only [i64]; omega), grd_pos (by simp only [i64]; omega), w_markText_eq (by omega), bnd1_mk]
    simp only [decide_true, Bool.not_true, cond_false]
    rw [grd_pos (by simp only [i64]; omega), w_markText_eq (by omega), bnd1_mk]
    simp only [decide_true, Bool.not_true, cond_false]
    rw [grd_pos (by simp only [i64]; omega), h]
    congr 1
    simp only [List.length_cons]
    omega

theorem w_heldRecordS_eq {l : List Rec} {n : Int} (h0 : 0 ≤ n) (hn : n + 6 * l.length ≤ 4611686018427387800) : w_heldRecordS (mkL l n) n = some (n + 6 * l.length) := w_heldRecordS_l0_eq l n 0 h0 hn

theorem slices_Clone_Record_eq {l : List Rec} (h : l.length ≤ 1099511627776) : slices_Clone_Record l = some l := by
  unfold slices_Clone_Record
  rw [List.nil_append, grd_pos h]

def cap (n : Int) : Int := bif decide (1 ≤ n) && decide (n ≤ 60) then n else 1

theorem segs_mem : ∀ (l cur x : List UInt8), x ∈ segs cur l → x.length ≤ cur.length + l.length
  | [], cur, x, h => by
    unfold segs at h
    rw [List.mem_singleton] at h
    subst h; simp
  | b :: l, cur, x, h => by
    unfold segs at h
    split at h
    · rcases List.mem_cons.1 h with h | h
      · subst h; simp
      · have := segs_mem l [] x h
        simp at this ⊢; omega
    · have := segs_mem l (cur ++ [b]) x h
      simp at this ⊢; omega

theorem labels_mem {s x : ByteArray} (h : x ∈ labels s) : x.size ≤ s.size := by
  unfold labels at h
  split at h
  · cases h
  · obtain ⟨y, hy, e⟩ := List.mem_map.1 h
    have h1 := segs_mem _ _ _ hy
    subst e
    rw [← bts_len, bts_mkB, ← bts_len s]
    simpa using h1

def chP (n : Int) : Bool := (decide (97 ≤ n) && decide (n ≤ 122)) || ((decide (48 ≤ n) && decide (n ≤ 57)) || (decide (n = 45) || decide (n = 95)))

def labelP (s : ByteArray) : Bool := ((bts s).all fun b => chP b.toNat) && (decide (1 ≤ (s.size : Int)) && decide ((s.size : Int) ≤ 12))

theorem s_l1In_eq {a b c : Int} : s_l1In a b c = some (decide (b ≤ a) && decide (a ≤ c)) := by
  unfold s_l1In; cases decide (b ≤ a) <;> rfl

theorem s_l2Byte_eq {b : UInt8} : s_l2Byte (b.toNat : Int) = some (chP b.toNat) := by
  have h := b.toNat_lt
  unfold s_l2Byte chP
  rw [wrap_id (by omega), s_l1In_eq, bnd1_mk, s_l1In_eq, bnd1_mk]
  cases decide (97 ≤ (b.toNat : Int)) && decide ((b.toNat : Int) ≤ 122) <;> cases decide (48 ≤ (b.toNat : Int)) && decide ((b.toNat : Int) ≤ 57) <;> cases decide ((b.toNat : Int) = 45) <;> rfl

theorem drop_all {s : ByteArray} {i : Nat} {b : UInt8} {p : UInt8 → Bool} (h : (bts s)[i]? = some b) : ((bts s).drop i).all p = (p b && ((bts s).drop (i + 1)).all p) := by
  obtain ⟨h1, h2⟩ := List.getElem?_eq_some_iff.1 h
  rw [List.drop_eq_getElem_cons h1, List.all_cons, h2]

theorem bts_get {s : ByteArray} {i : Nat} (h : i < s.size) : ∃ b, (bts s)[i]? = some b := ⟨(bts s)[i]'h, List.getElem?_eq_getElem h⟩

theorem s_LabelOk_l1_eq {s : ByteArray} (hs : s.size ≤ 1048576) : ∀ (k i fl : Nat), s.size - i = k → i ≤ s.size → k < fl → s_LabelOk_l1 s fl (i : Int) = some (((bts s).drop i).all (fun b => chP b.toNat) && (decide (1 ≤ (s.size : Int)) && decide ((s.size : Int) ≤ 12)))
  | 0, i, fl, hk, hi, hf => by
    obtain ⟨fl, rfl⟩ : ∃ q, fl = q + 1 := ⟨fl - 1, by omega⟩
    have c : ¬ ((i : Int) < (s.size : Int)) := by omega
    have e : (bts s).drop i = [] := List.drop_eq_nil_of_le (by rw [bts_len]; omega)
    rw [s_LabelOk_l1, decide_eq_false c, cond_false, e]
    unfold s_LabelOk_j0
    rw [s_l1In_eq]; rfl
  | k + 1, i, fl, hk, hi, hf => by
    obtain ⟨fl, rfl⟩ : ∃ q, fl = q + 1 := ⟨fl - 1, by omega⟩
    have c : (i : Int) < (s.size : Int) := by omega
    obtain ⟨b, hb⟩ := bts_get (s := s) (i := i) (by omega)
    have h := s_LabelOk_l1_eq hs k (i + 1) fl (by omega) (by omega) (by omega)
    rw [s_LabelOk_l1, decide_eq_true c, cond_true, sidx_nat hb, bnd1_mk, s_l2Byte_eq, bnd1_mk, grd_pos (by simp only [i64]; omega)]
    have e : ((i : Int) + 1) = ((i + 1 : Nat) : Int) := by omega
    rw [e, h, drop_all hb]
    cases chP b.toNat <;> rfl

theorem fuel_lt {k : Nat} (h : k ≤ 1048576) : k < fuel0 := by unfold fuel0; omega

theorem s_LabelOk_eq {s : ByteArray} (hs : s.size ≤ 1048576) : s_LabelOk s = some (labelP s) := by
  have h := s_LabelOk_l1_eq hs s.size 0 fuel0 (by omega) (by omega) (fuel_lt hs)
  unfold s_LabelOk
  exact h

theorem i_LabelOk_l1_eq {s : ByteArray} (hs : s.size ≤ 1048576) : ∀ (k i fl : Nat), s.size - i = k → i ≤ s.size → k < fl → i_LabelOk_l1 s fl (i : Int) = some (((bts s).drop i).all (fun b => chP b.toNat) && (decide (1 ≤ (s.size : Int)) && decide ((s.size : Int) ≤ 12)))
  | 0, i, fl, hk, hi, hf => by
    obtain ⟨fl, rfl⟩ : ∃ q, fl = q + 1 := ⟨fl - 1, by omega⟩
    have c : ¬ ((i : Int) < (s.size : Int)) := by omega
    have e : (bts s).drop i = [] := List.drop_eq_nil_of_le (by rw [bts_len]; omega)
    rw [i_LabelOk_l1, decide_eq_false c, cond_false, e]
    unfold i_LabelOk_j0
    cases decide (1 ≤ (s.size : Int)) <;> rfl
  | k + 1, i, fl, hk, hi, hf => by
    obtain ⟨fl, rfl⟩ : ∃ q, fl = q + 1 := ⟨fl - 1, by omega⟩
    have c : (i : Int) < (s.size : Int) := by omega
    obtain ⟨b, hb⟩ := bts_get (s := s) (i := i) (by omega)
    have h := i_LabelOk_l1_eq hs k (i + 1) fl (by omega) (by omega) (by omega)
    rw [i_LabelOk_l1, decide_eq_true c, cond_true, sidx_nat hb, bnd1_mk]
    have e : ((i : Int) + 1) = ((i + 1 : Nat) : Int) := by omega
    have hj : ∀ y : Bool, i_LabelOk_j2 (i : Int) (i_LabelOk_l1 s fl) y = some (!y && (((bts s).drop (i + 1)).all (fun b => chP b.toNat) && (decide (1 ≤ (s.size : Int)) && decide ((s.size : Int) ≤ 12)))) := by
      intro y
      unfold i_LabelOk_j2
      rw [grd_pos (by simp only [i64]; omega), e, h]
      cases y <;> rfl
    simp only [hj]
    rw [drop_all hb]
    have hc : chP b.toNat = !(((decide ((b.toNat : Int) < 97)) || decide (122 < (b.toNat : Int))) && ((decide ((b.toNat : Int) < 48) || decide (57 < (b.toNat : Int))) && ((!decide ((b.toNat : Int) = 45)) && !decide ((b.toNat : Int) = 95)))) := by
      have e1 : decide (97 ≤ (b.toNat : Int)) = !decide ((b.toNat : Int) < 97) := by by_cases c : (b.toNat : Int) < 97 <;> simp [c] <;> omega
      have e2 : decide ((b.toNat : Int) ≤ 122) = !decide (122 < (b.toNat : Int)) := by by_cases c : 122 < (b.toNat : Int) <;> simp [c] <;> omega
      have e3 : decide (48 ≤ (b.toNat : Int)) = !decide ((b.toNat : Int) < 48) := by by_cases c : (b.toNat : Int) < 48 <;> simp [c] <;> omega
      have e4 : decide ((b.toNat : Int) ≤ 57) = !decide (57 < (b.toNat : Int)) := by by_cases c : 57 < (b.toNat : Int) <;> simp [c] <;> omega
      unfold chP
      rw [e1, e2, e3, e4]
      cases decide ((b.toNat : Int) < 97) <;> cases decide (122 < (b.toNat : Int)) <;> cases decide ((b.toNat : Int) < 48) <;> cases decide (57 < (b.toNat : Int)) <;> cases decide ((b.toNat : Int) = 45) <;> cases decide ((b.toNat : Int) = 95) <;> rfl
    rw [hc]
    rw [Bool.and_assoc]
    generalize (((bts s).drop (i + 1)).all (fun b => chP b.toNat) && (decide (1 ≤ (s.size : Int)) && decide ((s.size : Int) ≤ 12))) = R
    cases decide ((b.toNat : Int) < 97) <;> cases decide (122 < (b.toNat : Int)) <;> cases decide ((b.toNat : Int) < 48) <;> cases decide (57 < (b.toNat : Int)) <;> cases decide ((b.toNat : Int) = 45) <;> cases decide ((b.toNat : Int) = 95) <;> rfl

theorem i_LabelOk_eq {s : ByteArray} (hs : s.size ≤ 1048576) : i_LabelOk s = some (labelP s) := by
  have h := i_LabelOk_l1_eq hs s.size 0 fuel0 (by omega) (by omega) (fuel_lt hs)
  unfold i_LabelOk
  exact h

def nameP (s : ByteArray) : Bool := (labels s).all labelP && (decide ((s.size : Int) ≤ 50) && decide (((labels s).length : Int) ≤ 6))

theorem s_NameOk_l1_eq {s : ByteArray} : ∀ (l : List ByteArray) (i : Nat), (∀ x, x ∈ l → x.size ≤ 1048576) → s_NameOk_l1 s (labels s) l i = some (l.all labelP && (decide ((s.size : Int) ≤ 50) && decide (((labels s).length : Int) ≤ 6)))
  | [], i, _ => by
    rw [s_NameOk_l1]; unfold s_NameOk_j0
    cases decide ((s.size : Int) ≤ 50) <;> rfl
  | x :: l, i, h => by
    rw [s_NameOk_l1, s_LabelOk_eq (h x (.head _)), bnd1_mk, s_NameOk_l1_eq l (i + 1) fun y hy => h y (.tail _ hy), List.all_cons]
    cases labelP x <;> rfl

theorem s_NameOk_eq {s : ByteArray} (hs : s.size ≤ 1048576) : s_NameOk s = some (nameP s) := by
  unfold s_NameOk
  rw [s_Labels_eq hs, bnd1_mk, s_NameOk_l1_eq _ _ fun x hx => Nat.le_trans (labels_mem hx) hs]; rfl

theorem slices_IndexFunc_string_l0_eq {g : ByteArray → Option Bool} {p : ByteArray → Bool} : ∀ (l : List ByteArray) (i : Nat), (∀ r, r ∈ l → g r = some (p r)) → ∃ v, slices_IndexFunc_string_l0 g l i = some v ∧ decide (0 ≤ v) = l.any p
  | [], i, _ => ⟨-1, rfl, rfl⟩
  | r :: l, i, h => by
    rw [slices_IndexFunc_string_l0, h r (.head _), bnd1_mk]
    cases c : p r with
    | true => exact ⟨i, rfl, by simp [c]⟩
    | false =>
      obtain ⟨v, h1, h2⟩ := slices_IndexFunc_string_l0_eq l (i + 1) fun q hq => h q (.tail _ hq)
      exact ⟨v, h1, by simp [c, h2]⟩

theorem slices_ContainsFunc_string_eq {g : ByteArray → Option Bool} {p : ByteArray → Bool} {l : List ByteArray} (h : ∀ r, r ∈ l → g r = some (p r)) : slices_ContainsFunc_string l g = some (l.any p) := by
  obtain ⟨v, h1, h2⟩ := slices_IndexFunc_string_l0_eq l 0 h
  unfold slices_ContainsFunc_string slices_IndexFunc_string
  rw [h1, bnd1_mk, h2]

theorem any_not_all {α : Type} (p : α → Bool) : ∀ l : List α, (!l.any fun x => !p x) = l.all p
  | [] => rfl
  | x :: l => by rw [List.any_cons, List.all_cons, ← any_not_all p l]; cases p x <;> simp

theorem i_NameOk_eq {s : ByteArray} (hs : s.size ≤ 1048576) : i_NameOk s = some (nameP s) := by
  unfold i_NameOk nameP
  rw [i_Labels_eq hs, bnd1_mk, slices_ContainsFunc_string_eq (p := fun x => !labelP x) fun r hr => by unfold i_NameOk_1; rw [i_LabelOk_eq (Nat.le_trans (labels_mem hr) hs)]; rfl, bnd1_mk, any_not_all]
  cases decide ((s.size : Int) ≤ 50) <;> cases decide (((labels s).length : Int) ≤ 6) <;> cases (labels s).all labelP <;> rfl

def typeP (k : Int) : Bool := decide (k = 1) || (decide (k = 2) || (decide (k = 5) || (decide (k = 6) || decide (k = 16))))

theorem s_TypeOk_eq {k : Int} : s_TypeOk k = some (typeP k) := by
  unfold s_TypeOk typeP
  cases decide (k = 1) <;> cases decide (k = 2) <;> cases decide (k = 5) <;> cases decide (k = 6) <;> rfl

theorem i_TypeOk_eq {k : Int} : i_TypeOk k = some (typeP k) := by
  have e : ∀ a : ByteArray, bnd1 (some a) (fun x1 => some (!decide (x1 = (⟨#[]⟩ : ByteArray)))) = some (!decide (a = (⟨#[]⟩ : ByteArray))) := fun _ => rfl
  unfold i_TypeOk i_TypeText typeP
  cases decide (k = 1) <;> cases decide (k = 2) <;> cases decide (k = 5) <;> cases decide (k = 6) <;> cases decide (k = 16) <;> rfl

def questP (q : Quest) : Bool := nameP q.name && typeP q.ty

theorem s_QuestOk_eq {q : Quest} (h : q.sm) : s_QuestOk q = some (questP q) := by
  unfold s_QuestOk questP
  rw [s_NameOk_eq h, bnd1_mk, s_TypeOk_eq]
  cases nameP q.name <;> rfl

theorem i_QuestOk_eq {q : Quest} (h : q.sm) : i_QuestOk q = some (questP q) := by
  unfold i_QuestOk questP
  rw [i_NameOk_eq h, bnd1_mk, i_TypeOk_eq]
  cases nameP q.name <;> rfl

theorem textTail {s : ByteArray} {i : Nat} (h : ¬ ((i : Int) < (s.size : Int))) : (bts s).drop i = [] := List.drop_eq_nil_of_le (by rw [bts_len]; omega)

def txP (n : Int) : Bool := decide (33 ≤ n) && decide (n ≤ 126)

def textP (s : ByteArray) : Bool := ((bts s).all fun b => txP b.toNat) && decide ((s.size : Int) ≤ 12)

theorem s_l5Text_l1_eq {s : ByteArray} (hs : s.size ≤ 1048576) : ∀ (k i fl : Nat), s.size - i = k → i ≤ s.size → k < fl → s_l5Text_l1 s fl (i : Int) = some (((bts s).drop i).all (fun b => txP b.toNat) && decide ((s.size : Int) ≤ 12))
  | 0, i, fl, hk, hi, hf => by
    obtain ⟨fl, rfl⟩ : ∃ q, fl = q + 1 := ⟨fl - 1, by omega⟩
    have c : ¬ ((i : Int) < (s.size : Int)) := by omega
    rw [s_l5Text_l1, decide_eq_false c, cond_false, textTail c]
    rfl
  | k + 1, i, fl, hk, hi, hf => by
    obtain ⟨fl, rfl⟩ : ∃ q, fl = q + 1 := ⟨fl - 1, by omega⟩
    have c : (i : Int) < (s.size : Int) := by omega
    obtain ⟨b, hb⟩ := bts_get (s := s) (i := i) (by omega)
    have hl := b.toNat_lt
    have h := s_l5Text_l1_eq hs k (i + 1) fl (by omega) (by omega) (by omega)
    have e : ((i : Int) + 1) = ((i + 1 : Nat) : Int) := by omega
    rw [s_l5Text_l1, decide_eq_true c, cond_true, sidx_nat hb, bnd1_mk, wrap_id (by omega), s_l1In_eq, bnd1_mk, grd_pos (by simp only [i64]; omega), e, h, drop_all hb, Bool.and_assoc]
    unfold txP
    cases decide (33 ≤ (b.toNat : Int)) && decide ((b.toNat : Int) ≤ 126) <;> rfl

theorem s_l5Text_eq {s : ByteArray} (hs : s.size ≤ 1048576) : s_l5Text s = some (textP s) := by
  have h := s_l5Text_l1_eq hs s.size 0 fuel0 (by omega) (by omega) (fuel_lt hs)
  unfold s_l5Text
  exact h

theorem i_isText_l1_eq {s : ByteArray} (hs : s.size ≤ 1048576) : ∀ (k i fl : Nat), s.size - i = k → i ≤ s.size → k < fl → i_isText_l1 s fl (i : Int) = some (((bts s).drop i).all (fun b => txP b.toNat) && decide ((s.size : Int) ≤ 12))
  | 0, i, fl, hk, hi, hf => by
    obtain ⟨fl, rfl⟩ : ∃ q, fl = q + 1 := ⟨fl - 1, by omega⟩
    have c : ¬ ((i : Int) < (s.size : Int)) := by omega
    rw [i_isText_l1, decide_eq_false c, cond_false, textTail c]
    rfl
  | k + 1, i, fl, hk, hi, hf => by
    obtain ⟨fl, rfl⟩ : ∃ q, fl = q + 1 := ⟨fl - 1, by omega⟩
    have c : (i : Int) < (s.size : Int) := by omega
    obtain ⟨b, hb⟩ := bts_get (s := s) (i := i) (by omega)
    have h := i_isText_l1_eq hs k (i + 1) fl (by omega) (by omega) (by omega)
    have e : ((i : Int) + 1) = ((i + 1 : Nat) : Int) := by omega
    have hj : ∀ y : Bool, i_isText_j2 (i : Int) (i_isText_l1 s fl) y = some (!y && (((bts s).drop (i + 1)).all (fun b => txP b.toNat) && decide ((s.size : Int) ≤ 12))) := by
      intro y
      unfold i_isText_j2
      rw [grd_pos (by simp only [i64]; omega), e, h]
      cases y <;> rfl
    rw [i_isText_l1, decide_eq_true c, cond_true, sidx_nat hb, bnd1_mk, bnd1_mk, hj, hj, drop_all hb, Bool.and_assoc]
    have e1 : decide (33 ≤ (b.toNat : Int)) = !decide ((b.toNat : Int) < 33) := by by_cases c : (b.toNat : Int) < 33 <;> simp [c] <;> omega
    have e2 : decide ((b.toNat : Int) ≤ 126) = !decide (126 < (b.toNat : Int)) := by by_cases c : 126 < (b.toNat : Int) <;> simp [c] <;> omega
    unfold txP
    rw [e1, e2]
    generalize (((bts s).drop (i + 1)).all (fun b => decide (33 ≤ (b.toNat : Int)) && decide ((b.toNat : Int) ≤ 126)) && decide ((s.size : Int) ≤ 12)) = R
    cases decide ((b.toNat : Int) < 33) <;> cases decide (126 < (b.toNat : Int)) <;> rfl

theorem i_isText_eq {s : ByteArray} (hs : s.size ≤ 1048576) : i_isText s = some (textP s) := by
  have h := i_isText_l1_eq hs s.size 0 fuel0 (by omega) (by omega) (fuel_lt hs)
  unfold i_isText
  exact h

def inP (a b c : Int) : Bool := decide (b ≤ a) && decide (a ≤ c)

theorem i_isTtl_eq {a : Int} : i_isTtl a = some (inP a 0 100000) := by
  unfold i_isTtl inP; cases decide (0 ≤ a) <;> rfl

theorem i_isFour_eq {a : Int} : i_isFour a = some (inP a 0 2147483647) := by
  unfold i_isFour inP; cases decide (0 ≤ a) <;> rfl

def nilP (s : ByteArray) : Bool := decide (s = (⟨#[]⟩ : ByteArray))

def recP (r : Rec) : Bool :=
  nameP r.name && (inP r.ttl 0 100000 && (bif decide (r.ty = 1) then inP r.n 0 2147483647 && (nilP r.host && nilP r.text) else (bif decide (r.ty = 2) || decide (r.ty = 5) then decide (r.n = 0) && (nameP r.host && nilP r.text)
    else (bif decide (r.ty = 6) then inP r.n 0 100000 && (nameP r.host && nilP r.text) else decide (r.ty = 16) && (decide (r.n = 0) && (nilP r.host && textP r.text))))))

theorem s_RecordOk_eq {r : Rec} (h : r.sm) : s_RecordOk r = some (recP r) := by
  obtain ⟨h1, h2, h3⟩ := h
  unfold s_RecordOk s_RecordOk_j0 s_RecordOk_j1 recP nilP
  rw [s_NameOk_eq h1, bnd1_mk, s_l1In_eq, bnd1_mk, s_l1In_eq, bnd1_mk, s_l1In_eq, bnd1_mk, s_NameOk_eq h2, bnd1_mk, s_l5Text_eq h3, bnd1_mk]
  unfold inP
  generalize (decide (0 ≤ r.ttl) && decide (r.ttl ≤ 100000)) = a
  generalize (decide (0 ≤ r.n) && decide (r.n ≤ 2147483647)) = b
  generalize (decide (0 ≤ r.n) && decide (r.n ≤ 100000)) = d
  cases nameP r.name <;> cases a <;> cases decide (r.ty = 1) <;> cases decide (r.ty = 2) <;> cases decide (r.ty = 5) <;> cases decide (r.ty = 6) <;> cases decide (r.ty = 16) <;> try rfl
  all_goals (cases b <;> cases d <;> cases decide (r.n = 0) <;> cases nameP r.host <;> cases decide (r.host = (⟨#[]⟩ : ByteArray)) <;> rfl)

theorem i_RecordOk_eq {r : Rec} (h : r.sm) : i_RecordOk r = some (recP r) := by
  obtain ⟨h1, h2, h3⟩ := h
  unfold i_RecordOk i_RecordOk_j0 i_RecordOk_j1 recP nilP
  rw [i_NameOk_eq h1, bnd1_mk, i_isTtl_eq, bnd1_mk, i_isFour_eq, bnd1_mk, i_isTtl_eq, bnd1_mk, i_NameOk_eq h2, bnd1_mk, i_isText_eq h3, bnd1_mk]
  generalize inP r.ttl 0 100000 = a
  generalize inP r.n 0 2147483647 = b
  generalize inP r.n 0 100000 = d
  cases nameP r.name <;> cases a <;> cases decide (r.ty = 1) <;> cases decide (r.ty = 2) <;> cases decide (r.ty = 5) <;> cases decide (r.ty = 6) <;> cases decide (r.ty = 16) <;> try rfl
  all_goals (cases b <;> cases d <;> cases decide (r.n = 0) <;> cases nameP r.host <;> cases decide (r.host = (⟨#[]⟩ : ByteArray)) <;> rfl)

def listP (k : Int) (l : List Rec) : Bool := l.all recP && decide ((l.length : Int) ≤ k)

theorem s_l7List_l1_eq {w : List Rec} : ∀ (l : List Rec) (i : Nat), (∀ r, r ∈ l → r.sm) → s_l7List_l1 w l i = some (l.all recP && decide ((w.length : Int) ≤ 8))
  | [], i, _ => rfl
  | r :: l, i, h => by
    rw [s_l7List_l1, s_RecordOk_eq (h r (.head _)), bnd1_mk, s_l7List_l1_eq l (i + 1) fun q hq => h q (.tail _ hq), List.all_cons]
    cases recP r <;> rfl

theorem s_l7List_eq {l : List Rec} (h : smL l) : s_l7List l = some (listP 8 l) := s_l7List_l1_eq l 0 h.2

theorem i_allOk_eq {l : List Rec} {k : Int} (h : smL l) : i_allOk l k = some (listP k l) := by
  unfold i_allOk listP
  rw [slices_ContainsFunc_Record_eq (p := fun r => !recP r) fun r hr => by unfold i_allOk_1; rw [i_RecordOk_eq (h.2 r hr)]; rfl, bnd1_mk, any_not_all]
  cases decide ((l.length : Int) ≤ k) <;> cases l.all recP <;> rfl

def MEntry.sm (x : MEntry) : Prop := x.q.sm ∧ smL x.l

theorem w_szEntry_p {x : MEntry} {n : Int} (hx : x.ok) (hn : 0 ≤ n ∧ n ≤ 1048576) : ∃ v, w_szEntry x n = some v ∧ v ≤ n ∧ (0 ≤ v → x.sm) := by
  obtain ⟨v, h3, h4, h5⟩ := w_szQuest_p hx.1 hn
  unfold w_szEntry
  rw [h3, bnd1_mk]
  by_cases c : v < 0
  · exact ⟨-1, by simp [c], by omega, by omega⟩
  obtain ⟨u, k3, k4, k5⟩ := w_szRecordS_p (l := x.l) (n := v) (by have := hx; exact ⟨this.2.2.1.1, this.2.2.1.2⟩) (by omega)
  rw [decide_eq_false c, cond_false, k3, bnd1_mk]
  by_cases c' : u < 0
  · exact ⟨-1, by simp [c'], by omega, by omega⟩
  · exact ⟨u, by simp [c'], by omega, fun _ => ⟨h5 (by omega), k5 (by omega)⟩⟩

theorem w_toEntry_eq {x : MEntry} (h : x.sm) : w_toEntry x = some x := by
  unfold w_toEntry; rw [w_toQuest_eq, bnd1_mk, w_toRecordS_eq (Nat.le_trans h.2.1 (by decide)), bnd1_mk]

theorem w_eqEntry_self {x : MEntry} : w_eqEntry x x = some true := by unfold w_eqEntry; simp [w_eqQuest_self, w_eqRecordS_self]

def sameQ (q : Quest) (r : Rec) : Bool := decide (r.name = q.name) && decide (r.ty = q.ty)

def entryP (e : MEntry) : Bool :=
  inP e.rank 1 3 && (!decide (e.til < 0) && (bif decide (e.kind = 0) then e.l.all (sameQ e.q) && (questP e.q && (decide (0 < (e.l.length : Int)) && listP 8 e.l))
    else (bif decide (e.kind = 1) then questP e.q && decide ((e.l.length : Int) = 0) else decide (e.kind = 2) && (nameP e.q.name && (decide (e.q.ty = 0) && decide ((e.l.length : Int) = 0))))))

theorem s_EntryOk_l3_eq {e : MEntry} (h : e.sm) : ∀ (l : List Rec) (i : Nat), s_EntryOk_l3 e l i = some (l.all (sameQ e.q) && (questP e.q && (decide (0 < (e.l.length : Int)) && listP 8 e.l)))
  | [], i => by
    rw [s_EntryOk_l3]
    unfold s_EntryOk_j2
    rw [s_QuestOk_eq h.1, bnd1_mk, s_l7List_eq h.2, bnd1_mk]
    cases questP e.q <;> cases decide (0 < (e.l.length : Int)) <;> rfl
  | r :: l, i => by
    have hj : ∀ y, s_EntryOk_j4 i (s_EntryOk_l3 e l) y = some (!y && (l.all (sameQ e.q) && (questP e.q && (decide (0 < (e.l.length : Int)) && listP 8 e.l)))) := by
      intro y
      unfold s_EntryOk_j4
      rw [s_EntryOk_l3_eq h l (i + 1)]
      cases y <;> rfl
    rw [s_EntryOk_l3, hj, hj, List.all_cons]
    unfold sameQ
    cases decide (r.name = e.q.name) <;> cases decide (r.ty = e.q.ty) <;> rfl

theorem s_EntryOk_eq {e : MEntry} (h : e.sm) : s_EntryOk e = some (entryP e) := by
  unfold s_EntryOk s_EntryOk_j0 s_EntryOk_j1 entryP
  rw [s_l1In_eq, bnd1_mk, s_EntryOk_l3_eq h, s_QuestOk_eq h.1, bnd1_mk, s_NameOk_eq h.1, bnd1_mk]
  unfold inP
  generalize (decide (1 ≤ e.rank) && decide (e.rank ≤ 3)) = a
  cases a <;> cases decide (e.til < 0) <;> cases decide (e.kind = 0) <;> cases decide (e.kind = 1) <;> cases decide (e.kind = 2) <;> cases questP e.q <;> cases nameP e.q.name <;> cases decide (e.q.ty = 0) <;> rfl

theorem setOf_all {l : List Rec} {q : Quest} : decide (((setOf l q.name q.ty).length : Int) = (l.length : Int)) = l.all (sameQ q) := by
  have h : ((setOf l q.name q.ty).length = l.length) ↔ (l.all (sameQ q) = true) := by
    rw [List.all_eq_true]
    unfold setOf
    rw [List.length_filter_eq_length_iff]
    rfl
  by_cases c : l.all (sameQ q) = true
  · rw [c]; exact decide_eq_true (by rw [h.2 c])
  · have c2 : ¬ ((setOf l q.name q.ty).length = l.length) := fun x => c (h.1 x)
    rw [Bool.not_eq_true] at c
    rw [c]; exact decide_eq_false (by omega)

theorem i_EntryOk_eq {e : MEntry} (h : e.sm) : i_EntryOk e = some (entryP e) := by
  unfold i_EntryOk i_EntryOk_j0 entryP
  rw [i_QuestOk_eq h.1, bnd1_mk, bnd1_mk, i_NameOk_eq h.1, bnd1_mk, i_allOk_eq h.2, bnd1_mk, i_SetOf_eq h.2, bnd1_mk, setOf_all]
  unfold inP
  have e1 : decide (1 ≤ e.rank) = !decide (e.rank < 1) := by by_cases c : e.rank < 1 <;> simp [c] <;> omega
  have e2 : decide (e.rank ≤ 3) = !decide (3 < e.rank) := by by_cases c : 3 < e.rank <;> simp [c] <;> omega
  rw [e1, e2]
  cases decide (e.rank < 1) <;> cases decide (3 < e.rank) <;> cases decide (e.til < 0) <;> cases decide (e.kind = 0) <;> cases decide (e.kind = 1) <;> cases decide (e.kind = 2) <;> try rfl
  all_goals (cases questP e.q <;> cases nameP e.q.name <;> cases decide (e.q.ty = 0) <;> try rfl)
  all_goals (cases decide (0 < (e.l.length : Int)) <;> cases listP 8 e.l <;> cases e.l.all (sameQ e.q) <;> rfl)

def MCache.sm (c : MCache) : Prop := c.l.length ≤ 1048576 ∧ ∀ e, e ∈ c.l → e.sm

theorem w_szEntryS_l0_p : ∀ (l : List MEntry) (n : Int) (i : Nat), (∀ r, r ∈ l → r.ok) → 0 ≤ n ∧ n ≤ 1048576 → ∃ v, w_szEntryS_l0 l n i = some v ∧ v ≤ n ∧ (0 ≤ v → ∀ r, r ∈ l → r.sm)
  | [], n, i, _, _ => ⟨n, rfl, Int.le_refl _, fun _ r hr => by cases hr⟩
  | r :: l, n, i, hr, hn => by
    obtain ⟨v, h1, h2, h2'⟩ := w_szEntry_p (hr r (.head _)) hn
    rw [w_szEntryS_l0, h1]
    by_cases c : v < 0
    · exact ⟨-1, by simp [c], by omega, by omega⟩
    · obtain ⟨w, h3, h4, h5⟩ := w_szEntryS_l0_p l v (i + 1) (fun q hq => hr q (.tail _ hq)) (by omega)
      exact ⟨w, by simp [c, h3], by omega, fun h q hq => by
        cases hq with
        | head => exact h2' (by omega)
        | tail _ hq => exact h5 h q hq⟩

theorem w_szEntryS_p {l : List MEntry} {n : Int} (hl : l.length ≤ 9223372036854775807 ∧ ∀ r, r ∈ l → r.ok) (hn : 0 ≤ n ∧ n ≤ 1048576) : ∃ v, w_szEntryS l n = some v ∧ v ≤ n ∧ (0 ≤ v → l.length ≤ 1048576 ∧ ∀ r, r ∈ l → r.sm) := by
  obtain ⟨h0, hr⟩ := hl
  unfold w_szEntryS
  rw [grd_pos (by simp only [i64]; omega)]
  by_cases c : n - (l.length : Int) < 0
  · exact ⟨-1, by simp [c], by omega, by omega⟩
  · obtain ⟨v, h1, h2, h3⟩ := w_szEntryS_l0_p l (n - l.length) 0 hr (by omega)
    exact ⟨v, by simp [c, h1], by omega, fun h => ⟨by omega, h3 h⟩⟩

theorem w_szCache_p {f : MCache} {n : Int} (hf : f.ok) (hn : 0 ≤ n ∧ n ≤ 1048576) : ∃ v, w_szCache f n = some v ∧ v ≤ n ∧ (0 ≤ v → f.sm) := by
  unfold w_szCache
  obtain ⟨a, a1, a2, a3⟩ := w_szEntryS_p hf.2 hn
  by_cases c : a < 0
  · exact ⟨-1, by simp [a1, c], by omega, by omega⟩
  · exact ⟨a, by simp [a1, c], by omega, fun _ => a3 (by omega)⟩

theorem w_toEntryS_l0_eq : ∀ (t pre : List MEntry) (z : List MEntry), z.length = t.length → (∀ r, r ∈ t → r.sm) → w_toEntryS_l0 t (pre ++ z) pre.length = some (pre ++ t)
  | [], pre, z, hz, _ => by cases z with | nil => rfl | cons a b => simp at hz
  | r :: t, pre, z, hz, h => by
    cases z with
    | nil => simp at hz
    | cons a z =>
      rw [w_toEntryS_l0]
      have := w_toEntryS_l0_eq t (pre ++ [r]) z (by simpa using hz) (fun q hq => h q (.tail _ hq))
      rw [w_toEntry_eq (h r (.head _))]
      simp only [bnd1_mk, idx_nat]
      simp [bnd1] at this ⊢
      simpa using this

theorem w_toEntryS_eq {l : List MEntry} (h : l.length ≤ 1099511627776) (hs : ∀ r, r ∈ l → r.sm) : w_toEntryS l = some l := by
  unfold w_toEntryS
  rw [grd_pos (by omega)]
  have := w_toEntryS_l0_eq l [] (List.replicate l.length ⟨⟨⟨#[]⟩, 0⟩, 0, [], 0, 0⟩) (by simp) hs
  simpa using this

theorem w_toCache_eq {c : MCache} (h : c.sm) : w_toCache c = some c := by
  unfold w_toCache
  rw [w_toEntryS_eq (Nat.le_trans h.1 (by decide)) h.2, bnd1_mk]

theorem w_eqEntryS_l0_self : ∀ (t pre : List MEntry), w_eqEntryS_l0 (pre ++ t) t pre.length = some true
  | [], pre => rfl
  | r :: t, pre => by
    rw [w_eqEntryS_l0]
    have := w_eqEntryS_l0_self t (pre ++ [r])
    simp only [idx_nat]
    simp [w_eqEntry_self] at this ⊢
    exact this

theorem w_eqEntryS_self {l : List MEntry} : w_eqEntryS l l = some true := by
  unfold w_eqEntryS
  have := w_eqEntryS_l0_self l []
  simpa using this

theorem w_eqCache_self {c : MCache} : w_eqCache c c = some true := by unfold w_eqCache; simp [w_eqEntryS_self]

def qEq (a b : Quest) : Bool := decide (a.name = b.name) && decide (a.ty = b.ty)

theorem qEq_true (a b : Quest) : (decide (a.name = b.name) && (decide (a.ty = b.ty) && true)) = qEq a b := by unfold qEq; rw [Bool.and_true]

theorem s_l15At_l0_eq {q : Quest} : ∀ (l : List MEntry) (i : Nat), s_l15At_l0 q l i = some (match l.findIdx? (fun e => qEq e.q q) with | some k => ((i + k : Nat) : Int) | none => -1)
  | [], i => rfl
  | e :: l, i => by
    rw [s_l15At_l0, qEq_true, s_l15At_l0_eq l (i + 1), List.findIdx?_cons]
    cases qEq e.q q with
    | true => rfl
    | false =>
      simp only [cond_false, Bool.false_eq_true, if_false]
      cases l.findIdx? (fun e => qEq e.q q) with
      | none => rfl
      | some k => simp only [Option.map_some]; congr 2; omega

def atQ (l : List MEntry) (q : Quest) : Int := match l.findIdx? (fun e => qEq e.q q) with | some k => (k : Int) | none => -1

theorem s_l15At_eq {c : MCache} {q : Quest} : s_l15At c q = some (atQ c.l q) := by
  unfold s_l15At atQ
  rw [s_l15At_l0_eq]
  cases c.l.findIdx? (fun e => qEq e.q q) with
  | none => rfl
  | some k => simp

theorem slices_IndexFunc_Entry_l0_eq {g : MEntry → Option Bool} {p : MEntry → Bool} : ∀ (l : List MEntry) (i : Nat), (∀ r, r ∈ l → g r = some (p r)) → slices_IndexFunc_Entry_l0 g l i = some (match l.findIdx? p with | some k => ((i + k : Nat) : Int) | none => -1)
  | [], i, _ => rfl
  | e :: l, i, h => by
    rw [slices_IndexFunc_Entry_l0, h e (.head _), bnd1_mk, slices_IndexFunc_Entry_l0_eq l (i + 1) (fun r hr => h r (.tail _ hr)), List.findIdx?_cons]
    cases p e with
    | true => rfl
    | false =>
      simp only [cond_false, Bool.false_eq_true, if_false]
      cases l.findIdx? p with
      | none => rfl
      | some k => simp only [Option.map_some]; congr 2; omega

def atP (p : MEntry → Bool) (l : List MEntry) : Int := match l.findIdx? p with | some k => (k : Int) | none => -1

theorem slices_IndexFunc_Entry_eq {g : MEntry → Option Bool} {p : MEntry → Bool} {l : List MEntry} (h : ∀ r, r ∈ l → g r = some (p r)) : slices_IndexFunc_Entry l g = some (atP p l) := by
  unfold slices_IndexFunc_Entry atP
  rw [slices_IndexFunc_Entry_l0_eq l 0 h]
  cases l.findIdx? p with
  | none => rfl
  | some k => simp

def zent : MEntry := ⟨⟨⟨#[]⟩, 0⟩, 0, [], 0, 0⟩

theorem s_l15Entry_eq {e : MEntry} (h : e.sm) : s_l15Entry e = some e := by
  have hc : s_l7Copy e.l = some e.l := by unfold s_l7Copy; rw [List.nil_append, grd_pos (Nat.le_trans h.2.1 (by decide))]
  unfold s_l15Entry; rw [hc]; rfl

theorem i_copyEntry_eq {e : MEntry} (h : e.sm) : i_copyEntry e = some e := by
  unfold i_copyEntry; rw [slices_Clone_Record_eq (Nat.le_trans h.2.1 (by decide))]; rfl

theorem s_l15Copy_l0_eq {c : MCache} : ∀ (l out : List MEntry) (i : Nat), (∀ e, e ∈ l → e.sm) → out.length + l.length ≤ 1099511627776 → s_l15Copy_l0 c l out i = some (MCache.mk c.cap (out ++ l))
  | [], out, i, _, _ => by rw [s_l15Copy_l0, List.append_nil]
  | e :: l, out, i, h, hl => by
    simp only [List.length_cons] at hl
    rw [s_l15Copy_l0, s_l15Entry_eq (h e (.head _)), bnd1_mk, grd_pos (by simp; omega), s_l15Copy_l0_eq l (out ++ [e]) (i + 1) (fun x hx => h x (.tail _ hx)) (by simp; omega)]
    simp

theorem s_l15Copy_eq {c : MCache} (h : c.sm) : s_l15Copy c = some c := by
  unfold s_l15Copy; rw [s_l15Copy_l0_eq _ _ _ h.2 (by have := h.1; simp; omega)]; rfl

theorem i_copyCache_l0_eq {c : MCache} : ∀ (l out : List MEntry) (i : Nat), (∀ e, e ∈ l → e.sm) → out.length + l.length ≤ 1099511627776 → i_copyCache_l0 c l out i = some (MCache.mk c.cap (out ++ l))
  | [], out, i, _, _ => by rw [i_copyCache_l0, List.append_nil]
  | e :: l, out, i, h, hl => by
    simp only [List.length_cons] at hl
    rw [i_copyCache_l0, i_copyEntry_eq (h e (.head _)), bnd1_mk, grd_pos (by simp; omega), i_copyCache_l0_eq l (out ++ [e]) (i + 1) (fun x hx => h x (.tail _ hx)) (by simp; omega)]
    simp

theorem i_copyCache_eq {c : MCache} (h : c.sm) : i_copyCache c = some c := by
  unfold i_copyCache; rw [i_copyCache_l0_eq _ _ _ h.2 (by have := h.1; simp; omega)]; rfl

theorem s_l15Lives_eq {e : MEntry} {now : Int} : s_l15Lives e now = some (decide (now < e.til)) := rfl

/-- The place of the entry that ends first, among those up to here and those behind. -/
def oldL (l : List MEntry) : List MEntry → Nat → Nat → Nat
  | [], b, _ => b
  | e :: t, b, i => oldL l t (bif decide (e.til < (l.getD b zent).til) then i else b) (i + 1)

theorem oldL_lt {l : List MEntry} : ∀ (t : List MEntry) (b i : Nat), b < l.length → i + t.length ≤ l.length → oldL l t b i < l.length
  | [], b, i, h, _ => h
  | e :: t, b, i, h, hi => by
    simp only [List.length_cons] at hi
    unfold oldL
    refine oldL_lt t _ _ ?_ (by omega)
    cases decide (e.til < (l.getD b zent).til)
    · exact h
    · show i < _; omega

theorem idx_getD {l : List MEntry} {b : Nat} (h : b < l.length) : idx l (b : Int) = some (l.getD b zent) := by
  rw [idx_nat, List.getElem?_eq_getElem h]; simp [List.getD, List.getElem?_eq_getElem h]

theorem s_l15Oldest_l0_eq {c : MCache} : ∀ (t : List MEntry) (b i : Nat), b < c.l.length → i + t.length ≤ c.l.length → s_l15Oldest_l0 c t (b : Int) i = some (oldL c.l t b i : Int)
  | [], b, i, _, _ => rfl
  | e :: t, b, i, h, hi => by
    simp only [List.length_cons] at hi
    rw [s_l15Oldest_l0, idx_getD h, bnd1_mk, oldL]
    cases decide (e.til < (c.l.getD b zent).til)
    · exact s_l15Oldest_l0_eq t b (i + 1) h (by omega)
    · exact s_l15Oldest_l0_eq t i (i + 1) (by omega) (by omega)

def oldest (l : List MEntry) : Nat := oldL l l 0 0

theorem oldest_tail {l : List MEntry} (h : 0 < l.length) : oldest l = oldL l (l.drop 1) 0 1 := by
  cases l with
  | nil => simp at h
  | cons e t => unfold oldest; rw [oldL]; simp

theorem oldest_lt {l : List MEntry} (h : 0 < l.length) : oldest l < l.length := oldL_lt l 0 0 h (by omega)

theorem s_l15Oldest_eq {c : MCache} (h : 0 < c.l.length) : s_l15Oldest c = some (oldest c.l : Int) := by
  unfold s_l15Oldest
  rw [oldest_tail h]
  exact s_l15Oldest_l0_eq (c.l.drop 1) 0 1 h (by simp; omega)

def putP (l : List MEntry) (cap : Int) (e : MEntry) : List MEntry := (bif decide (0 < (l.length : Int)) && decide (cap ≤ (l.length : Int)) then l.eraseIdx (oldest l) else l) ++ [e]

def keepP (c : MCache) (now : Int) (e : MEntry) : MCache := bif !entryP e || !decide (now < e.til) then c else
  match c.l.findIdx? (fun x => qEq x.q e.q) with
  | some k => bif decide ((c.l.getD k zent).rank ≤ e.rank) || !decide (now < (c.l.getD k zent).til) then ⟨c.cap, c.l.set k e⟩ else c
  | none => ⟨c.cap, putP c.l c.cap e⟩

theorem s_Keep_j1_eq {c : MCache} {e : MEntry} {k : Nat} (h : k < c.l.length) (b : Bool) : s_Keep_j1 c e (k : Int) b = some (bif b then ⟨c.cap, c.l.set k e⟩ else c) := by
  unfold s_Keep_j1
  rw [idx_getD h, bnd1_mk]
  cases b <;> rfl

theorem erase_eq {l : List MEntry} {k : Nat} (h : k < l.length) : (([] : List MEntry) ++ ((l.drop (0 + ((0 : Nat) : Int).toNat)).take ((k : Int).toNat - ((0 : Nat) : Int).toNat))) ++ ((l.drop (0 + ((k : Int) + 1).toNat)).take ((l.length : Int).toNat - ((k : Int) + 1).toNat)) = l.eraseIdx k := by
  have e1 : ((k : Int) + 1).toNat = k + 1 := by omega
  have e2 : ((l.length : Int)).toNat = l.length := by omega
  have e3 : ((0 : Nat) : Int).toNat = 0 := rfl
  have e4 : (k : Int).toNat = k := by omega
  rw [e1, e2, e3, e4, List.nil_append, Nat.zero_add, Nat.zero_add, List.drop_zero, Nat.sub_zero, List.eraseIdx_eq_take_drop_succ]
  congr 1
  exact List.take_of_length_le (by simp)

theorem s_Keep_j2_eq {c : MCache} {e : MEntry} {l : List MEntry} (h : l.length ≤ 1048577) : s_Keep_j2 c e l = some ⟨c.cap, l ++ [e]⟩ := by
  unfold s_Keep_j2; rw [grd_pos (by simp; omega)]

theorem s_Keep_j3_eq {c : MCache} {e : MEntry} (h : c.l.length ≤ 1048576) (b : Bool) (hb : b = true → 0 < c.l.length) : s_Keep_j3 c e b = some ⟨c.cap, (bif b then c.l.eraseIdx (oldest c.l) else c.l) ++ [e]⟩ := by
  unfold s_Keep_j3
  cases b with
  | false => rw [cond_false, s_Keep_j2_eq (by omega)]; rfl
  | true =>
    have h0 := hb rfl
    have hk := oldest_lt h0
    have hl := List.length_eraseIdx_le c.l (oldest c.l)
    have hx := erase_eq hk
    rw [cond_true, s_l15Oldest_eq h0, bnd1_mk, grd_pos (by omega), grd_pos (by
      rw [List.nil_append, List.length_take, List.length_drop]; omega), grd_pos (by simp only [i64]; omega), grd_pos (by omega), hx, grd_pos (by omega), s_Keep_j2_eq (by omega)]
    rfl

theorem s_Keep_eq {c : MCache} {now : Int} {e : MEntry} (h : c.sm) (he : e.sm) : s_Keep c now e = some (keepP c now e) := by
  unfold s_Keep keepP
  rw [s_l15Copy_eq h, bnd1_mk, s_EntryOk_eq he, bnd1_mk, s_l15Lives_eq, bnd1_mk]
  have h0 : ∀ b : Bool, s_Keep_j0 c now e c b = some (bif b then c else (match c.l.findIdx? (fun x => qEq x.q e.q) with
      | some k => bif decide ((c.l.getD k zent).rank ≤ e.rank) || !decide (now < (c.l.getD k zent).til) then ⟨c.cap, c.l.set k e⟩ else c
      | none => ⟨c.cap, putP c.l c.cap e⟩)) := fun b => by
    unfold s_Keep_j0
    cases b with
    | true => rfl
    | false =>
      rw [cond_false, cond_false, s_l15Entry_eq he, bnd1_mk, s_l15At_eq, bnd1_mk]
      unfold atQ
      cases hf : c.l.findIdx? (fun x => qEq x.q e.q) with
      | some k =>
        obtain ⟨hk, -, -⟩ := List.findIdx?_eq_some_iff_getElem.1 hf
        have c1 : (0 : Int) ≤ (k : Int) := by omega
        simp only [c1, decide_true, cond_true, idx_getD hk, bnd1_mk, s_l15Lives_eq, s_Keep_j1_eq hk]
        cases decide ((c.l.getD k zent).rank ≤ e.rank) <;> rfl
      | none =>
        have c1 : ¬ ((0 : Int) ≤ -1) := by decide
        simp only [c1, decide_false, cond_false]
        unfold putP
        cases hd : decide (0 < (c.l.length : Int)) with
        | false => rw [cond_false, s_Keep_j3_eq h.1 false (by simp)]; rfl
        | true =>
          have hp : 0 < c.l.length := by have := of_decide_eq_true hd; omega
          rw [cond_true, s_Keep_j3_eq h.1 _ (fun _ => hp)]; rfl
  cases entryP e with
  | false => exact h0 true
  | true => rw [Bool.not_true, cond_false, h0]; rfl

theorem slices_Delete_Entry_eq {l : List MEntry} {k : Nat} (h : k < l.length) : slices_Delete_Entry l (k : Int) ((k : Int) + 1) = some (l.eraseIdx k, l.eraseIdx k) := by
  have e1 : (k : Int).toNat - ((0 : Nat) : Int).toNat = k := by simp
  have e2 : (l.drop (0 + ((k : Int) + 1).toNat)).take ((l.length : Int).toNat - ((k : Int) + 1).toNat) = l.drop (k + 1) := by
    rw [show ((k : Int) + 1).toNat = k + 1 by omega, Nat.zero_add]; exact List.take_of_length_le (by simp)
  have e3 : (l.drop (k + 1)).length = l.length - (k + 1) := List.length_drop
  have e4 : (l.take k ++ l.drop (k + 1) ++ l.drop (k + (l.drop (k + 1)).length)).take (0 + ((k + (l.drop (k + 1)).length : Nat) : Int).toNat) = l.eraseIdx k := by
    rw [Nat.zero_add, Int.toNat_natCast, List.eraseIdx_eq_take_drop_succ]
    exact List.take_left' (by rw [List.length_append, List.length_take]; omega)
  have n1 : ¬ ((k : Int) = (k : Int) + 1) := by omega
  unfold slices_Delete_Entry
  rw [e1, e2, e4, grd_pos (by omega), decide_eq_false n1, cond_false, grd_pos (by omega), grd_pos (by omega), grd_pos (by omega), grd_pos (by
    simp only [List.length_append, List.length_take, List.length_drop]; omega)]

theorem i_dropFirst_Entry_l1_eq {l : List MEntry} : ∀ (t : List MEntry) (b i : Nat), b < l.length → i + t.length ≤ l.length → i_dropFirst_Entry_l1 l (fun a0 => i_Keep_2 a0) t (b : Int) i = i_dropFirst_Entry_j0 l (oldL l t b i : Int)
  | [], b, i, _, _ => rfl
  | e :: t, b, i, h, hi => by
    simp only [List.length_cons] at hi
    have e1 : ∀ x : MEntry, i_Keep_2 x = some x.til := fun _ => rfl
    rw [i_dropFirst_Entry_l1, e1, bnd1_mk, idx_getD h, bnd1_mk, e1, bnd1_mk, oldL]
    cases decide (e.til < (l.getD b zent).til)
    · exact i_dropFirst_Entry_l1_eq t b (i + 1) h (by omega)
    · exact i_dropFirst_Entry_l1_eq t i (i + 1) (by omega) (by omega)

theorem i_dropFirst_Entry_eq {l : List MEntry} (hl : l.length ≤ 1048576) : i_dropFirst_Entry l (fun a0 => i_Keep_2 a0) = some ((bif decide (0 < (l.length : Int)) then l.eraseIdx (oldest l) else l), (bif decide (0 < (l.length : Int)) then l.eraseIdx (oldest l) else l)) := by
  unfold i_dropFirst_Entry
  by_cases h0 : 0 < l.length
  · have hk := oldest_lt h0
    have n1 : ¬ ((l.length : Int) = 0) := by omega
    have n2 : 0 < (l.length : Int) := by omega
    have := i_dropFirst_Entry_l1_eq l 0 0 h0 (by omega)
    rw [show ((0 : Nat) : Int) = 0 from rfl] at this
    rw [this]
    show i_dropFirst_Entry_j0 l (oldest l : Int) = _
    unfold i_dropFirst_Entry_j0
    rw [decide_eq_false n1, cond_false, grd_pos (by simp only [i64]; omega), slices_Delete_Entry_eq hk, bnd2_mk, decide_eq_true n2, cond_true]
  · cases l with
    | nil => rfl
    | cons a l => simp at h0

theorem i_Keep_j1_eq {c : MCache} {e : MEntry} {k : Nat} (h : k < c.l.length) (b : Bool) : i_Keep_j1 c e (k : Int) b = some (bif b then ⟨c.cap, c.l.set k e⟩ else c) := by
  unfold i_Keep_j1
  rw [idx_getD h, bnd1_mk]
  cases b <;> rfl

theorem i_Keep_j2_eq {c : MCache} {e : MEntry} {l : List MEntry} (h : l.length ≤ 1048577) : i_Keep_j2 c e l = some ⟨c.cap, l ++ [e]⟩ := by
  unfold i_Keep_j2; rw [grd_pos (by simp; omega)]

theorem i_Keep_eq {c : MCache} {now : Int} {e : MEntry} (h : c.sm) (he : e.sm) : i_Keep c now e = some (keepP c now e) := by
  unfold i_Keep keepP
  rw [show i_copyCache (MCache.mk c.cap c.l) = some c from i_copyCache_eq h, bnd1_mk, show i_EntryOk (MEntry.mk (Quest.mk e.q.name e.q.ty) e.kind e.l e.rank e.til) = some (entryP e) from i_EntryOk_eq he, bnd1_mk]
  have hd : ∀ t : Int, decide (t ≤ now) = !decide (now < t) := fun t => by rw [← decide_not]; congr 1; simp
  have h0 : ∀ b : Bool, i_Keep_j0 now e c b = some (bif b then c else (match c.l.findIdx? (fun x => qEq x.q e.q) with
      | some k => bif decide ((c.l.getD k zent).rank ≤ e.rank) || !decide (now < (c.l.getD k zent).til) then ⟨c.cap, c.l.set k e⟩ else c
      | none => ⟨c.cap, putP c.l c.cap e⟩)) := fun b => by
    unfold i_Keep_j0
    cases b with
    | true => rfl
    | false =>
      rw [cond_false, cond_false, show i_copyEntry (MEntry.mk (Quest.mk e.q.name e.q.ty) e.kind e.l e.rank e.til) = some e from i_copyEntry_eq he, bnd1_mk,
        slices_IndexFunc_Entry_eq (g := fun a0 => i_Keep_1 a0 (MEntry.mk (Quest.mk e.q.name e.q.ty) e.kind e.l e.rank e.til)) (p := fun x => qEq x.q e.q) (fun r _ => by unfold i_Keep_1; rw [qEq_true]), bnd1_mk]
      unfold atP
      cases hf : c.l.findIdx? (fun x => qEq x.q e.q) with
      | some k =>
        obtain ⟨hk, -, -⟩ := List.findIdx?_eq_some_iff_getElem.1 hf
        have c1 : (0 : Int) ≤ (k : Int) := by omega
        simp only [c1, decide_true, cond_true, idx_getD hk, bnd1_mk, i_Keep_j1_eq hk, hd]
        cases decide ((c.l.getD k zent).rank ≤ e.rank) <;> rfl
      | none =>
        have c1 : ¬ ((0 : Int) ≤ -1) := by decide
        simp only [c1, decide_false, cond_false]
        unfold putP
        have hl := h.1
        cases hc : decide (c.cap ≤ (c.l.length : Int)) with
        | false => rw [cond_false, i_Keep_j2_eq (by omega), Bool.and_false]; rfl
        | true =>
          have hl2 := List.length_eraseIdx_le c.l (oldest c.l)
          rw [cond_true, i_dropFirst_Entry_eq h.1, bnd2_mk, Bool.and_true, i_Keep_j2_eq (by
            cases decide (0 < (c.l.length : Int)) <;> simp only [cond_true, cond_false] <;> omega)]
  cases entryP e with
  | false => exact h0 true
  | true => rw [Bool.not_true, cond_false, h0, hd]; rfl

theorem w_markEntryS_l0_p : ∀ (k fl : Nat) (l : List MEntry) (n : Int) (i : Nat), i + k = l.length → k < fl → (∀ z, z ∈ l → z.l.length ≤ 1048576) → 0 ≤ n → n + k * 8388608 ≤ 4611686018427380000 → l.length ≤ 1048576 → ∃ a m, w_markEntryS_l0 fl l n (i : Int) = some (a, m) ∧ m.length = l.length ∧ n ≤ a ∧ a ≤ n + k * 8388608
  | 0, fl, l, n, i, hi, hf, hz, h0, hn, hl => by
    obtain ⟨fl, rfl⟩ : ∃ q, fl = q + 1 := ⟨fl - 1, by omega⟩
    rw [w_markEntryS_l0, decide_eq_false (by omega), cond_false]
    exact ⟨n, l, rfl, rfl, Int.le_refl _, by omega⟩
  | k + 1, fl, l, n, i, hi, hf, hz, h0, hn, hl => by
    obtain ⟨fl, rfl⟩ : ∃ q, fl = q + 1 := ⟨fl - 1, by omega⟩
    obtain ⟨z, hx⟩ : ∃ z, l[i]? = some z := ⟨_, List.getElem?_eq_getElem (by omega)⟩
    have hm := List.mem_of_getElem? hx
    have h2 := hz z hm
    have e : ((i : Int) + 1) = ((i + 1 : Nat) : Int) := by omega
    rw [w_markEntryS_l0, decide_eq_true (by omega), cond_true, w_markText_eq (by omega), bnd1_mk, idx_nat, hx, bnd1_mk, grd_pos (by simp only [i64]; omega), grd_pos (by simp only [i64]; omega), grd_pos (by simp only [i64]; omega), w_markRecordS_eq (by omega) (by omega) (by omega), bnd2_mk, grd_pos (mkL_len _ _), grd_pos (by simp only [i64]; omega), grd_pos (by simp only [i64]; omega), grd_pos (by simp only [i64]; omega), e]
    obtain ⟨a, m, h3, h4, h5, h6⟩ := w_markEntryS_l0_p k fl (l.set (i : Int).toNat ⟨⟨mkT n, n + 1⟩, n + 1 + 1, mkL z.l (n + 1 + 1 + 1), n + 1 + 1 + 1 + 6 * z.l.length, n + 1 + 1 + 1 + 6 * z.l.length + 1⟩) (n + 1 + 1 + 1 + 6 * z.l.length + 1 + 1) (i + 1) (by rw [List.length_set]; omega) (by omega) (fun y hy => by
      rcases List.mem_or_eq_of_mem_set hy with hy | rfl
      · exact hz y hy
      · show (mkL z.l (n + 1 + 1 + 1)).length ≤ _; rw [mkL_len]; exact h2) (by omega) (by omega) (by rw [List.length_set]; omega)
    exact ⟨a, m, h3, by rw [h4, List.length_set], by omega, by omega⟩

theorem w_markCache_p {c : MCache} (h : c.sm) : ∃ a b, w_markCache c 1 = some (a, b) ∧ 0 ≤ a ∧ b.length = c.l.length ∧ a ≤ 10000000000000 := by
  obtain ⟨a, m, h1, h2, h3, h4⟩ := w_markEntryS_l0_p c.l.length fuel0 c.l 1 0 (by omega) (fuel_lt h.1) (fun z hz => (h.2 z hz).2.1) (by omega) (by have := h.1; omega) h.1
  have e1 : w_markEntryS c.l 1 = some (a, m) := h1
  unfold w_markCache
  rw [e1, bnd2_mk, grd_pos h2]
  exact ⟨_, _, rfl, by omega, h2, by have := h.1; omega⟩

def mkEn (e : MEntry) (n : Int) : MEntry := ⟨⟨mkT n, n + 1⟩, n + 1 + 1, mkL e.l (n + 1 + 1 + 1), n + 1 + 1 + 1 + 6 * e.l.length, n + 1 + 1 + 1 + 6 * e.l.length + 1⟩

def enN (e : MEntry) (n : Int) : Int := n + 1 + 1 + 1 + 6 * e.l.length + 1 + 1

def mkE : List MEntry → Int → List MEntry
  | [], _ => []
  | e :: l, n => mkEn e n :: mkE l (enN e n)

def enE : List MEntry → Int → Int
  | [], n => n
  | e :: l, n => enE l (enN e n)

theorem mkE_len : ∀ (l : List MEntry) (n : Int), (mkE l n).length = l.length
  | [], _ => rfl
  | e :: l, n => by rw [mkE, List.length_cons, mkE_len l, List.length_cons]

theorem enE_ge : ∀ (l : List MEntry) (n : Int), 0 ≤ n → 0 ≤ enE l n
  | [], _, h => h
  | e :: l, n, h => enE_ge l (enN e n) (by unfold enN; omega)

theorem w_markEntryS_l0_eq : ∀ (t A : List MEntry) (n : Int) (fl : Nat), t.length < fl → (∀ z, z ∈ t → z.l.length ≤ 1048576) → 0 ≤ n → n + t.length * 8388608 ≤ 4611686018427380000 → A.length + t.length ≤ 1048577 → w_markEntryS_l0 fl (A ++ t) n (A.length : Int) = some (enE t n, A ++ mkE t n)
  | [], A, n, fl, hf, hz, h0, hn, hl => by
    obtain ⟨fl, rfl⟩ : ∃ q, fl = q + 1 := ⟨fl - 1, by simp at hf; omega⟩
    rw [w_markEntryS_l0, decide_eq_false (by simp), cond_false]; rfl
  | e :: t, A, n, fl, hf, hz, h0, hn, hl => by
    simp only [List.length_cons] at hf hn hl
    obtain ⟨fl, rfl⟩ : ∃ q, fl = q + 1 := ⟨fl - 1, by omega⟩
    have h2 := hz e (.head _)
    have hx : (A ++ e :: t)[A.length]? = some e := by simp
    have e1 : ((A.length : Int) + 1) = ((A ++ [mkEn e n]).length : Int) := by simp
    have es : (A ++ e :: t).set (A.length : Int).toNat (mkEn e n) = (A ++ [mkEn e n]) ++ t := by simp
    have ih := w_markEntryS_l0_eq t (A ++ [mkEn e n]) (enN e n) fl (by omega) (fun z hm => hz z (.tail _ hm)) (by unfold enN; omega) (by unfold enN; omega) (by simp; omega)
    rw [← es, ← e1] at ih
    rw [w_markEntryS_l0, decide_eq_true (by simp; omega), cond_true, w_markText_eq (by omega), bnd1_mk, idx_nat, hx, bnd1_mk, grd_pos (by simp only [i64]; omega), grd_pos (by simp only [i64]; omega), grd_pos (by simp only [i64]; omega), w_markRecordS_eq (by omega) (by omega) (by omega), bnd2_mk, grd_pos (mkL_len _ _), grd_pos (by simp only [i64]; omega), grd_pos (by simp only [i64]; omega), grd_pos (by simp only [i64]; omega)]
    refine ih.trans ?_
    simp only [enE, mkE, List.append_assoc, List.singleton_append]

theorem w_heldEntryS_l0_eq : ∀ (t : List MEntry) (n : Int) (i : Nat), (∀ z, z ∈ t → z.l.length ≤ 1048576) → 0 ≤ n → n + t.length * 8388608 ≤ 4611686018427380000 → w_heldEntryS_l0 (mkE t n) n i = some (enE t n)
  | [], _, _, _, _, _ => rfl
  | e :: t, n, i, hz, h0, hn => by
    simp only [List.length_cons] at hn
    have h2 := hz e (.head _)
    have ih := w_heldEntryS_l0_eq t (enN e n) (i + 1) (fun z hm => hz z (.tail _ hm)) (by unfold enN; omega) (by unfold enN; omega)
    have e1 : (mkEn e n).q.name = mkT n := rfl
    have e2 : (mkEn e n).q.ty = n + 1 := rfl
    have e3 : (mkEn e n).kind = n + 1 + 1 := rfl
    have e4 : (mkEn e n).l = mkL e.l (n + 1 + 1 + 1) := rfl
    have e5 : (mkEn e n).rank = n + 1 + 1 + 1 + 6 * e.l.length := rfl
    have e6 : (mkEn e n).til = n + 1 + 1 + 1 + 6 * e.l.length + 1 := rfl
    rw [mkE, w_heldEntryS_l0, w_markText_eq (by omega), bnd1_mk, e1, decide_eq_true rfl, Bool.not_true, cond_false, grd_pos (by simp only [i64]; omega), e2, decide_eq_true rfl, Bool.not_true, cond_false, grd_pos (by simp only [i64]; omega), e3, decide_eq_true rfl, Bool.not_true, cond_false, grd_pos (by simp only [i64]; omega),
      e4, w_heldRecordS_eq (by omega) (by omega), bnd1_mk, decide_eq_false (by omega), cond_false, e5, decide_eq_true rfl, Bool.not_true, cond_false, grd_pos (by simp only [i64]; omega), e6, decide_eq_true rfl, Bool.not_true, cond_false, grd_pos (by simp only [i64]; omega)]
    exact ih

theorem w_markCache_eq' {c : MCache} (hl : c.l.length ≤ 1048577) (hz : ∀ z, z ∈ c.l → z.l.length ≤ 1048576) : w_markCache c 1 = some (enE c.l 1, mkE c.l 1) ∧ w_heldCache ⟨c.cap, mkE c.l 1⟩ 1 = some (enE c.l 1) ∧ 0 ≤ enE c.l 1 := by
  have h1 : w_markEntryS c.l 1 = some (enE c.l 1, mkE c.l 1) := w_markEntryS_l0_eq c.l [] 1 fuel0 (by unfold fuel0; omega) hz (by omega) (by omega) (by simpa using hl)
  have h2 : w_heldEntryS (mkE c.l 1) 1 = some (enE c.l 1) := w_heldEntryS_l0_eq c.l 1 0 hz (by omega) (by omega)
  have h3 := enE_ge c.l 1 (by omega)
  refine ⟨?_, ?_, h3⟩
  · unfold w_markCache
    rw [h1, bnd2_mk, grd_pos (mkE_len _ _)]
  · unfold w_heldCache
    rw [h2, bnd1_mk, decide_eq_false (by omega), cond_false]

theorem putP_len {l : List MEntry} {cap : Int} {e : MEntry} (hl : l.length ≤ 1048576) (hz : ∀ z, z ∈ l → z.l.length ≤ 1048576) (he : e.l.length ≤ 1048576) : (putP l cap e).length ≤ 1048577 ∧ ∀ z, z ∈ putP l cap e → z.l.length ≤ 1048576 := by
  unfold putP
  have h1 := List.length_eraseIdx_le l (oldest l)
  cases decide (0 < (l.length : Int)) && decide (cap ≤ (l.length : Int))
  · refine ⟨by rw [cond_false, List.length_append]; simp; omega, fun z hm => ?_⟩
    rcases List.mem_append.1 hm with h2 | h2
    · exact hz z h2
    · rw [List.mem_singleton.1 h2]; exact he
  · refine ⟨by rw [cond_true, List.length_append]; simp; omega, fun z hm => ?_⟩
    rcases List.mem_append.1 hm with h2 | h2
    · exact hz z (List.mem_of_mem_eraseIdx h2)
    · rw [List.mem_singleton.1 h2]; exact he

theorem keepP_len {c : MCache} {now : Int} {e : MEntry} (h : c.sm) (he : e.sm) : (keepP c now e).l.length ≤ 1048577 ∧ ∀ z, z ∈ (keepP c now e).l → z.l.length ≤ 1048576 := by
  have hl := h.1
  have hz : ∀ z, z ∈ c.l → z.l.length ≤ 1048576 := fun z hz => (h.2 z hz).2.1
  have h0 : c.l.length ≤ 1048577 ∧ ∀ z, z ∈ c.l → z.l.length ≤ 1048576 := ⟨by omega, hz⟩
  have h1 := he.2.1
  unfold keepP
  cases !entryP e || !decide (now < e.til)
  · rw [cond_false]
    split
    · rename_i k _
      cases decide ((c.l.getD k zent).rank ≤ e.rank) || !decide (now < (c.l.getD k zent).til)
      · exact h0
      · rw [cond_true]
        refine ⟨by show (c.l.set k e).length ≤ _; rw [List.length_set]; omega, fun z hm => ?_⟩
        rcases List.mem_or_eq_of_mem_set hm with h2 | rfl
        · exact hz z h2
        · exact h1
    · exact putP_len hl hz h1
  · exact h0

theorem w_markEntry_q {x : MEntry} {n : Int} (h0 : 0 ≤ n ∧ n ≤ 1000000000000000) (h : x.l.length ≤ 1048576) : ∃ a b, w_markEntry x n = some (a, b) ∧ b.length = x.l.length ∧ 0 ≤ a := by
  unfold w_markEntry
  rw [w_markRecordS_eq (by omega) (by omega) (by omega), bnd2_mk, grd_pos (mkL_len _ _)]
  exact ⟨_, _, rfl, mkL_len _ _, by omega⟩

theorem law_Keep {c : MCache} {now : Int} {e : MEntry} (hc : c.ok) (_ : i64 now) (he : e.ok) : w_FnExactKeep c now e = some true := by
  unfold w_FnExactKeep
  obtain ⟨v, h3, h4, h5⟩ := w_szCache_p hc (n := 1048576) (by omega)
  rw [h3]
  by_cases k : v < 0
  · simp [k]
  obtain ⟨u, k3, k4, k5⟩ := w_szEntry_p he (n := v) (by omega)
  rw [bnd1_mk, k3]
  by_cases k' : u < 0
  · simp [k, k']
  · have h6 := h5 (by omega)
    have k6 := k5 (by omega)
    have e1 := s_Keep_eq (now := now) h6 k6
    have e2 := i_Keep_eq (now := now) h6 k6
    have hx := keepP_len (now := now) h6 k6
    generalize keepP c now e = x at e1 e2 hx
    obtain ⟨a, m, g1, g2, g3, g4⟩ := w_markCache_p h6
    obtain ⟨y, z, r1, r2, r4⟩ := w_markEntry_q (x := e) (n := a) (by omega) k6.2.1
    obtain ⟨q1, q2, q3⟩ := w_markCache_eq' hx.1 hx.2
    have c2 : ¬ (y < 0) := by omega
    have c3 : ¬ (enE x.l 1 < 0) := by omega
    simp [k, k', w_toCache_eq h6, w_toEntry_eq k6, e1, e2, w_eqCache_self, w_eqEntry_self, g1, g3, r1, r2, grd_pos, c2, w_FnExactKeep_j0, q1, mkE_len, q2, c3]
end Go.Abs.M
