/- The pure law of CacheOk: its pure function answers true. -/
import Derived.Test.YtcdpmfnjajjlkaaDoorFnsCacheOk
namespace Go.Abs.M
open Go Go.Abs
theorem idx_nat {α : Type} {l : List α} {n : Nat} : idx l (n : Int) = l[n]? := by simp [idx]

theorem w_toRecord_eq {r : Rec} : w_toRecord r = some r := rfl

theorem w_toRecordS_l0_eq : ∀ (t pre : List Rec) (z : List Rec), z.length = t.length → w_toRecordS_l0 t (pre ++ z) pre.length = some (pre ++ t)
  | [], pre, z, hz => by cases z with | nil => rfl | cons a b => simp at hz
  | r :: t, pre, z, hz => by
    cases z with
    | nil => simp at hz
    | cons a z =>
      rw [w_toRecordS_l0]
      have := w_toRecordS_l0_eq t (pre ++ [r]) z (by simpa using hz)
      simp only [w_toRecord_eq, bnd1_mk, idx_nat]
      simp [bnd1] at this ⊢
      simpa using this

theorem w_toRecordS_eq {l : List Rec} (h : l.length ≤ 1099511627776) : w_toRecordS l = some l := by
  unfold w_toRecordS
  rw [grd_pos (by omega)]
  have := w_toRecordS_l0_eq l [] (List.replicate l.length ⟨⟨#[]⟩, 0, 0, 0, ⟨#[]⟩, ⟨#[]⟩⟩) (by simp)
  simpa using this

theorem w_eqRecord_self {a : Rec} : w_eqRecord a a = some true := by unfold w_eqRecord; simp

theorem w_eqRecordS_l0_self : ∀ (t pre : List Rec), w_eqRecordS_l0 (pre ++ t) t pre.length = some true
  | [], pre => rfl
  | r :: t, pre => by
    rw [w_eqRecordS_l0]
    have := w_eqRecordS_l0_self t (pre ++ [r])
    simp only [idx_nat]
    simp [w_eqRecord_self] at this ⊢
    exact this

theorem w_eqRecordS_self {l : List Rec} : w_eqRecordS l l = some true := by
  unfold w_eqRecordS
  have := w_eqRecordS_l0_self l []
  simpa using this

def zrec : Rec := ⟨⟨#[]⟩, 0, 0, 0, ⟨#[]⟩, ⟨#[]⟩⟩

def first (p : Rec → Bool) (l : List Rec) : Rec := (l.find? p).getD zrec

theorem w_toQuest_eq {q : Quest} : w_toQuest q = some q := rfl

theorem w_eqQuest_self {q : Quest} : w_eqQuest q q = some true := by unfold w_eqQuest; simp

def setOf (l : List Rec) (nm : ByteArray) (k : Int) : List Rec := l.filter fun r => decide (r.name = nm) && decide (r.ty = k)

theorem i_SetOf_l0_eq (nm : ByteArray) (k : Int) : ∀ (l out : List Rec) (i : Nat), out.length + l.length ≤ 1099511627776 → i_SetOf_l0 nm k l out i = some (out ++ setOf l nm k)
  | [], out, i, _ => by simp [i_SetOf_l0, setOf]
  | r :: l, out, i, h => by
    simp only [List.length_cons] at h
    have h1 := i_SetOf_l0_eq nm k l (out ++ [r]) (i + 1) (by simp; omega)
    have h2 := i_SetOf_l0_eq nm k l out (i + 1) (by omega)
    rw [i_SetOf_l0]
    by_cases c : r.name = nm <;> by_cases c' : r.ty = k <;> simp [i_SetOf_j1, c, c', h2, setOf] <;> first
      | (rw [grd_pos (by omega), h1]; simp [setOf, c, c'])

def Rec.sm (r : Rec) : Prop := r.name.size ≤ 1048576 ∧ r.host.size ≤ 1048576 ∧ r.text.size ≤ 1048576

def smL (l : List Rec) : Prop := l.length ≤ 1048576 ∧ ∀ r, r ∈ l → r.sm

def okL (l : List Rec) : Prop := l.length ≤ 9223372036854775807 ∧ ∀ r, r ∈ l → r.ok

theorem w_szRecord_p {r : Rec} {n : Int} (hr : r.ok) (hn : 0 ≤ n ∧ n ≤ 1048576) : ∃ v, w_szRecord r n = some v ∧ v ≤ n ∧ (0 ≤ v → r.sm) := by
  obtain ⟨h1, -, -, -, h2, h3⟩ := hr
  unfold w_szRecord Rec.sm
  rw [grd_pos (by simp only [i64]; omega)]
  by_cases c1 : n - (r.name.size : Int) < 0
  · exact ⟨-1, by simp [c1], by omega, by omega⟩
  · simp only [c1, decide_false, cond_false]
    rw [grd_pos (by simp only [i64]; omega)]
    by_cases c2 : n - (r.name.size : Int) - (r.host.size : Int) < 0
    · exact ⟨-1, by simp [c2], by omega, by omega⟩
    · simp only [c2, decide_false, cond_false]
      rw [grd_pos (by simp only [i64]; omega)]
      by_cases c3 : n - (r.name.size : Int) - (r.host.size : Int) - (r.text.size : Int) < 0
      · exact ⟨-1, by simp [c3], by omega, by omega⟩
      · exact ⟨_, by simp only [c3, decide_false, cond_false]; rfl, by omega, by omega⟩

theorem w_szRecordS_l0_p : ∀ (l : List Rec) (n : Int) (i : Nat), (∀ r, r ∈ l → r.ok) → 0 ≤ n ∧ n ≤ 1048576 → ∃ v, w_szRecordS_l0 l n i = some v ∧ v ≤ n ∧ (0 ≤ v → ∀ r, r ∈ l → r.sm)
  | [], n, i, _, _ => ⟨n, rfl, Int.le_refl _, fun _ r hr => by cases hr⟩
  | r :: l, n, i, hr, hn => by
    obtain ⟨v, h1, h2, h2'⟩ := w_szRecord_p (hr r (.head _)) hn
    rw [w_szRecordS_l0, h1]
    by_cases c : v < 0
    · exact ⟨-1, by simp [c], by omega, by omega⟩
    · obtain ⟨w, h3, h4, h5⟩ := w_szRecordS_l0_p l v (i + 1) (fun q hq => hr q (.tail _ hq)) (by omega)
      exact ⟨w, by simp [c, h3], by omega, fun h q hq => by
        cases hq with
        | head => exact h2' (by omega)
        | tail _ hq => exact h5 h q hq⟩

theorem w_szRecordS_p {l : List Rec} {n : Int} (hl : okL l) (hn : 0 ≤ n ∧ n ≤ 1048576) : ∃ v, w_szRecordS l n = some v ∧ v ≤ n ∧ (0 ≤ v → smL l) := by
  obtain ⟨h0, hr⟩ := hl
  unfold w_szRecordS
  rw [grd_pos (by simp only [i64]; omega)]
  by_cases c : n - (l.length : Int) < 0
  · exact ⟨-1, by simp [c], by omega, by omega⟩
  · obtain ⟨v, h1, h2, h3⟩ := w_szRecordS_l0_p l (n - l.length) 0 hr (by omega)
    exact ⟨v, by simp [c, h1], by omega, fun h => ⟨by omega, h3 h⟩⟩

def Quest.sm (q : Quest) : Prop := q.name.size ≤ 1048576

theorem w_szQuest_p {q : Quest} {n : Int} (hq : q.ok) (hn : 0 ≤ n ∧ n ≤ 1048576) : ∃ v, w_szQuest q n = some v ∧ v ≤ n ∧ (0 ≤ v → q.sm) := by
  obtain ⟨h1, -⟩ := hq
  unfold w_szQuest Quest.sm
  rw [grd_pos (by simp only [i64]; omega)]
  by_cases c1 : n - (q.name.size : Int) < 0
  · exact ⟨-1, by simp [c1], by omega, by omega⟩
  · exact ⟨_, by simp only [c1, decide_false, cond_false]; rfl, by omega, by omega⟩

theorem i_SetOf_eq {l : List Rec} {nm : ByteArray} {k : Int} (h : smL l) : i_SetOf l nm k = some (setOf l nm k) := by
  unfold i_SetOf; rw [i_SetOf_l0_eq _ _ _ _ _ (by have := h.1; simp; omega)]; rfl

def mkB (l : List UInt8) : ByteArray := ⟨l.toArray⟩

def bts (s : ByteArray) : List UInt8 := s.data.toList

theorem bts_mkB (l : List UInt8) : bts (mkB l) = l := rfl

theorem mkB_bts (s : ByteArray) : mkB (bts s) = s := rfl

theorem bts_len (s : ByteArray) : (bts s).length = s.size := rfl

theorem bts_inj {a b : ByteArray} : bts a = bts b ↔ a = b := ⟨fun h => by rw [← mkB_bts a, ← mkB_bts b, h], fun h => by rw [h]⟩

theorem bts_nil_iff (s : ByteArray) : s = ⟨#[]⟩ ↔ bts s = [] := ⟨fun h => by subst h; rfl, fun h => bts_inj.1 (by rw [h]; rfl)⟩

theorem bts_extract (s : ByteArray) (a b : Nat) : bts (s.extract a b) = ((bts s).drop a).take (b - a) := by
  unfold bts
  rw [ByteArray.data_extract, Array.toList_extract, List.extract_eq_take_drop]

theorem extract_mkB (s : ByteArray) (a b : Nat) : s.extract a b = mkB (((bts s).drop a).take (b - a)) := by
  rw [← mkB_bts (s.extract a b), bts_extract]

theorem sidx_nat {s : ByteArray} {n : Nat} {b : UInt8} (h : (bts s)[n]? = some b) : sidx s (n : Int) = some (b.toNat : Int) := by
  obtain ⟨h1, h2⟩ := List.getElem?_eq_some_iff.1 h
  have h3 : n < s.size := h1
  unfold sidx
  rw [dif_pos ⟨by omega, by simpa using h3⟩]
  subst h2
  rfl

/-- The parts of bytes between the dots. -/
def segs : List UInt8 → List UInt8 → List (List UInt8)
  | cur, [] => [cur]
  | cur, b :: l => if b = 46 then cur :: segs [] l else segs (cur ++ [b]) l

def labels (s : ByteArray) : List ByteArray := if bts s = [] then [] else (segs [] (bts s)).map mkB

theorem segs_len : ∀ (l cur : List UInt8), (segs cur l).length ≤ l.length + 1
  | [], cur => by simp [segs]
  | b :: l, cur => by
    unfold segs
    split
    · have := segs_len l []; simp; omega
    · have := segs_len l (cur ++ [b]); simp; omega

theorem u8_eq46 (b : UInt8) : ((b.toNat : Int) = 46) ↔ b = 46 := by
  constructor
  · intro h
    have : b.toNat = 46 := by omega
    exact UInt8.toNat_inj.1 this
  · intro h; subst h; rfl

/-- The loop of the reference's Labels: from the place i on, the part having begun at the place f. -/
theorem s_Labels_l0_eq (s : ByteArray) (hs : s.size ≤ 1048576) (hne : s ≠ ⟨#[]⟩) : ∀ (k : Nat) (i f fl : Nat) (out : List ByteArray), s.size - i = k → f ≤ i → i ≤ s.size → out.length ≤ f → k + 1 < fl →
    s_Labels_l0 s fl out (f : Int) (i : Int) = some (out ++ (segs (((bts s).drop f).take (i - f)) ((bts s).drop i)).map mkB)
  | 0, i, f, fl, out, hk, hfi, hi, ho, hfl => by
    obtain ⟨fl, rfl⟩ : ∃ q, fl = q + 1 := ⟨fl - 1, by omega⟩
    obtain ⟨fl, rfl⟩ : ∃ q, fl = q + 1 := ⟨fl - 1, by omega⟩
    have hie : i = s.size := by omega
    rw [s_Labels_l0]
    have e1 : (bts s).drop i = [] := List.drop_eq_nil_of_le (by rw [bts_len]; omega)
    rw [e1]
    simp only [segs, List.map_cons, List.map_nil]
    have c1 : decide ((i : Int) ≤ (s.size : Int)) = true := by simpa using hi
    have c2 : (!decide (s = (⟨#[]⟩ : ByteArray))) = true := by simpa using hne
    rw [c1, c2, cond_true, s_Labels_j1, cond_true]
    have c3 : decide ((i : Int) = (s.size : Int)) = true := by simp [hie]
    rw [c3, cond_true, s_Labels_j2, cond_true, grd_pos (by omega), grd_pos (by simp; omega), grd_pos (by simp only [i64]; omega), grd_pos (by simp only [i64]; omega), s_Labels_l0]
    have c4 : decide ((i : Int) + 1 ≤ (s.size : Int)) = false := by simp; omega
    rw [c4, cond_false, s_Labels_j1, cond_false, extract_mkB]
    simp
  | k + 1, i, f, fl, out, hk, hfi, hi, ho, hfl => by
    obtain ⟨fl, rfl⟩ : ∃ q, fl = q + 1 := ⟨fl - 1, by omega⟩
    have hlt : i < (bts s).length := by rw [bts_len]; omega
    rw [s_Labels_l0]
    have c1 : decide ((i : Int) ≤ (s.size : Int)) = true := by simpa using hi
    have c2 : (!decide (s = (⟨#[]⟩ : ByteArray))) = true := by simpa using hne
    rw [c1, c2, cond_true, s_Labels_j1, cond_true]
    have c3 : decide ((i : Int) = (s.size : Int)) = false := by simp; omega
    have hb : (bts s)[i]? = some (bts s)[i] := List.getElem?_eq_getElem hlt
    rw [c3, cond_false, sidx_nat hb, bnd1_mk, List.drop_eq_getElem_cons hlt, segs]
    have e2 : ((i : Int) + 1) = ((i + 1 : Nat) : Int) := by omega
    by_cases c : (bts s)[i] = 46
    · rw [if_pos c]
      have c5 : decide ((((bts s)[i]).toNat : Int) = 46) = true := by simpa using (u8_eq46 _).2 c
      rw [c5, s_Labels_j2, cond_true, grd_pos (by omega), grd_pos (by simp; omega), grd_pos (by simp only [i64]; omega), grd_pos (by simp only [i64]; omega), e2,
        s_Labels_l0_eq s hs hne k (i + 1) (i + 1) fl _ (by omega) (by omega) (by omega) (by simp; omega) (by omega), extract_mkB]
      simp
    · rw [if_neg c]
      have c5 : decide ((((bts s)[i]).toNat : Int) = 46) = false := by
        have := fun h => c ((u8_eq46 _).1 h)
        simpa using this
      rw [c5, s_Labels_j2, cond_false, grd_pos (by simp only [i64]; omega), e2, s_Labels_l0_eq s hs hne k (i + 1) f fl _ (by omega) (by omega) (by omega) ho (by omega)]
      have e3 : ((bts s).drop f).take (i + 1 - f) = ((bts s).drop f).take (i - f) ++ [(bts s)[i]] := by
        rw [show i + 1 - f = (i - f) + 1 by omega, List.take_add_one]
        congr 1
        rw [List.getElem?_drop, show f + (i - f) = i by omega, hb]
        rfl
      rw [e3]

theorem s_Labels_eq {s : ByteArray} (hs : s.size ≤ 1048576) : s_Labels s = some (labels s) := by
  unfold s_Labels
  by_cases hne : s = ⟨#[]⟩
  · subst hne
    have : fuel0 = 4611686018427387903 + 1 := rfl
    rw [this, s_Labels_l0]
    rfl
  · have h := s_Labels_l0_eq s hs hne s.size 0 0 fuel0 [] (by omega) (by omega) (by omega) (by simp) (by unfold fuel0; omega)
    have e : bts s ≠ [] := fun h => hne ((bts_nil_iff s).2 h)
    simpa [labels, e] using h

theorem indexByte_none : ∀ {l : List UInt8}, Lib.indexByte l 46 = -1 → ∀ cur, segs cur l = [cur ++ l]
  | [], _, cur => by simp [segs]
  | b :: l, h, cur => by
    unfold Lib.indexByte at h
    by_cases c : b = 46
    · subst c; simp at h
    · have hb : (b == (46 : UInt8)) = false := by simpa using c
      rw [hb] at h
      simp only [Bool.false_eq_true, if_false] at h
      by_cases c' : Lib.indexByte l 46 = -1
      · rw [segs, if_neg c, indexByte_none c']; simp
      · have h1 := Lib.indexByte_ge l 46
        rw [if_neg (by simpa using c')] at h
        omega

theorem indexByte_some : ∀ {l : List UInt8} {k : Nat}, Lib.indexByte l 46 = (k : Int) → k < l.length ∧ ∀ cur, segs cur l = (cur ++ l.take k) :: segs [] (l.drop (k + 1))
  | [], k, h => by simp [Lib.indexByte] at h
  | b :: l, k, h => by
    unfold Lib.indexByte at h
    by_cases c : b = 46
    · subst c
      simp at h
      have : k = 0 := by omega
      subst this
      exact ⟨by simp, fun cur => by simp [segs]⟩
    · have hb : (b == (46 : UInt8)) = false := by simpa using c
      rw [hb] at h
      simp only [Bool.false_eq_true, if_false] at h
      have h1 := Lib.indexByte_ge l 46
      by_cases c' : Lib.indexByte l 46 = -1
      · rw [if_pos (by simpa using c')] at h; omega
      · rw [if_neg (by simpa using c')] at h
        obtain ⟨q, rfl⟩ : ∃ q, k = q + 1 := ⟨k - 1, by omega⟩
        obtain ⟨h2, h3⟩ := indexByte_some (l := l) (k := q) (by omega)
        exact ⟨by simp; omega, fun cur => by rw [segs, if_neg c, h3]; simp⟩

theorem count_segs : ∀ (l cur : List UInt8), (segs cur l).length = Lib.countByte l 46 + 1
  | [], cur => by simp [segs, Lib.countByte]
  | b :: l, cur => by
    unfold segs
    by_cases c : b = 46
    · subst c; rw [if_pos rfl, List.length_cons, count_segs l []]; simp [Lib.countByte]
    · rw [if_neg c, count_segs l]; simp [Lib.countByte, c]

theorem dotB : (⟨#[46]⟩ : ByteArray).size = 1 := rfl

theorem dot_sidx : sidx (⟨#[46]⟩ : ByteArray) 0 = some 46 := rfl

theorem strings_Index_dot {s : ByteArray} : strings_Index s ⟨#[46]⟩ = some (if s = ⟨#[46]⟩ then 0 else Lib.indexByte (bts s) 46) := by
  unfold strings_Index internal_stringslite_Index
  rw [dotB]
  by_cases c : s = ⟨#[46]⟩
  · subst c; simp [internal_stringslite_Index_j0]
  · have c' : ¬ ((⟨#[46]⟩ : ByteArray) = s) := fun h => c h.symm
    simp [internal_stringslite_Index_j0, c, c', dotB, dot_sidx, internal_stringslite_IndexByte]
    rfl

theorem strings_Index_dot' {s : ByteArray} : strings_Index s ⟨#[46]⟩ = some (Lib.indexByte (bts s) 46) := by
  rw [strings_Index_dot]
  by_cases c : s = ⟨#[46]⟩
  · subst c; rfl
  · rw [if_neg c]

theorem segs_pos (cur l : List UInt8) : 1 ≤ (segs cur l).length := by rw [count_segs]; omega

theorem idx_cases (l : List UInt8) : Lib.indexByte l 46 = -1 ∨ ∃ k : Nat, Lib.indexByte l 46 = (k : Int) := by
  have h := Lib.indexByte_ge l 46
  rcases Int.lt_or_le (Lib.indexByte l 46) 0 with h1 | h1
  · exact .inl (by omega)
  · exact .inr ⟨(Lib.indexByte l 46).toNat, by omega⟩

theorem genSplit_j1_eq {r : ByteArray} {a : List ByteArray} {i : Nat} (hi : i < a.length) (ha : a.length ≤ 1099511627776) : strings_genSplit_j1 r a (i : Int) = some (a.take i ++ [r]) := by
  unfold strings_genSplit_j1
  rw [idx_nat, List.getElem?_eq_getElem hi, bnd1_mk, grd_pos (by simp only [i64]; omega), grd_pos (by omega)]
  congr 1
  have e : ((i : Int) + 1).toNat - ((0 : Nat) : Int).toNat = i + 1 := by omega
  have e2 : (0 + ((0 : Nat) : Int).toNat) = 0 := by omega
  rw [e, e2, List.drop_zero, Int.toNat_natCast, List.take_add_one, List.take_set_of_le (Nat.le_refl i), List.getElem?_set_self hi]
  rfl

theorem genSplit_l2_eq (p0 : ByteArray) (j : Int) (n : Nat) (hj : (if (p0.size : Int) + 1 < j then (p0.size : Int) + 1 else j) - 1 = (n : Int)) : ∀ (k i fl : Nat) (r : ByteArray) (a : List ByteArray), n - i = k → i ≤ n → k < fl → a.length = n + 1 → a.length ≤ 1099511627776 → (segs [] (bts r)).length = n + 1 - i → r.size ≤ 1048576 →
    strings_genSplit_l2 p0 ⟨#[46]⟩ 0 j fl r a (i : Int) = some (a.take i ++ (segs [] (bts r)).map mkB)
  | 0, i, fl, r, a, hk, hi, hf, ha, ha', hs, hr => by
    obtain ⟨fl, rfl⟩ : ∃ q, fl = q + 1 := ⟨fl - 1, by omega⟩
    have hin : i = n := by omega
    rw [strings_genSplit_l2, hj]
    have c : decide ((i : Int) < (n : Int)) = false := by simp; omega
    rw [c, cond_false, genSplit_j1_eq (by omega) ha']
    rcases idx_cases (bts r) with h | ⟨q, h⟩
    · rw [indexByte_none h]; rfl
    · have h1 := (indexByte_some h).2 []
      have h2 := segs_pos [] ((bts r).drop (q + 1))
      rw [h1] at hs
      simp only [List.length_cons] at hs
      omega
  | k + 1, i, fl, r, a, hk, hi, hf, ha, ha', hs, hr => by
    obtain ⟨fl, rfl⟩ : ∃ q, fl = q + 1 := ⟨fl - 1, by omega⟩
    rw [strings_genSplit_l2, hj]
    have c : decide ((i : Int) < (n : Int)) = true := by simp; omega
    rw [c, cond_true, strings_Index_dot', bnd1_mk]
    rcases idx_cases (bts r) with h | ⟨q, h⟩
    · rw [indexByte_none h] at hs
      simp at hs
      omega
    · obtain ⟨h1, h2⟩ := indexByte_some h
      have h2 := h2 []
      rw [bts_len] at h1
      have hi' : i < a.length := by omega
      rw [h, dotB]
      have c' : decide ((q : Int) < 0) = false := by simp
      have e1 : ((i : Int) + 1) = ((i + 1 : Nat) : Int) := by omega
      rw [c', cond_false, grd_pos (by simp only [i64]; omega), grd_pos (by omega), idx_nat, List.getElem?_eq_getElem hi', bnd1_mk, grd_pos (by simp only [i64]; omega), grd_pos (by omega), grd_pos (by simp only [i64]; omega), e1]
      have e2 : bts (r.extract ((q : Int) + ((1 : Nat) : Int)).toNat (r.size : Int).toNat) = (bts r).drop (q + 1) := by
        rw [bts_extract]
        have e3 : ((q : Int) + ((1 : Nat) : Int)).toNat = q + 1 := by omega
        rw [e3, List.take_of_length_le (by rw [List.length_drop, bts_len]; omega)]
      rw [h2, List.length_cons] at hs
      rw [genSplit_l2_eq p0 j n hj k (i + 1) fl _ _ (by omega) (by omega) (by omega) (by simp [ha]) (by simp [ha']) (by rw [e2]; omega) (by rw [ByteArray.size_extract]; omega), e2, h2]
      congr 1
      rw [Int.toNat_natCast, List.take_add_one, List.take_set_of_le (Nat.le_refl i), List.getElem?_set_self hi', extract_mkB]
      have e4 : ((q : Int) + 0).toNat - ((0 : Nat) : Int).toNat = q := by omega
      rw [e4]
      simp

theorem strings_Count_dot {s : ByteArray} : strings_Count s ⟨#[46]⟩ = some ((Lib.countByte (bts s) 46 : Nat) : Int) := by
  unfold strings_Count
  have c1 : decide (((⟨#[46]⟩ : ByteArray).size : Int) = 0) = false := by rw [dotB]; decide
  have c2 : decide (((⟨#[46]⟩ : ByteArray).size : Int) = 1) = true := by rw [dotB]; decide
  have h46 : (46 : Int).toNat.toUInt8 = 46 := by decide
  rw [c1, cond_false, c2, cond_true, dot_sidx, bnd1_mk, h46]
  rfl

theorem i_Labels_eq {s : ByteArray} (hs : s.size ≤ 1048576) : i_Labels s = some (labels s) := by
  unfold i_Labels
  by_cases hne : s = ⟨#[]⟩
  · subst hne
    have e : bts (⟨#[]⟩ : ByteArray) = [] := rfl
    simp [labels, e]
  · have e : bts s ≠ [] := fun h => hne ((bts_nil_iff s).2 h)
    have hne' : ¬ ((⟨#[46]⟩ : ByteArray) = ⟨#[]⟩) := by decide
    have hc := count_segs (bts s) []
    have hl := segs_len (bts s) []
    rw [bts_len] at hl
    have e0 := strings_Count_dot (s := s)
    have hjj : (if (s.size : Int) + 1 < ((Lib.countByte (bts s) 46 : Nat) : Int) + 1 then (s.size : Int) + 1 else ((Lib.countByte (bts s) 46 : Nat) : Int) + 1) = ((Lib.countByte (bts s) 46 : Nat) : Int) + 1 := by rw [if_neg (by omega)]
    have hloop := genSplit_l2_eq s (((Lib.countByte (bts s) 46 : Nat) : Int) + 1) (Lib.countByte (bts s) 46) (by rw [hjj]; omega) (Lib.countByte (bts s) 46) 0 fuel0 s (List.replicate (((Lib.countByte (bts s) 46 : Nat) : Int) + 1).toNat ⟨#[]⟩) (by omega) (by omega) (by unfold fuel0; omega) (by simp) (by simp; omega) (by omega) hs
    have g0 : decide ((-1 : Int) = 0) = false := by decide
    have g1 : decide ((⟨#[46]⟩ : ByteArray) = ⟨#[]⟩) = false := decide_eq_false hne'
    have g2 : decide ((-1 : Int) < 0) = true := by decide
    rw [decide_eq_false hne, cond_false, strings_Split, strings_genSplit, g0, g1, g2, cond_false, cond_false, cond_true, e0, bnd1_mk, grd_pos (by simp only [i64]; omega), strings_genSplit_j0, hjj, grd_pos (by simp only [i64]; omega), grd_pos (by omega), grd_pos (by simp only [i64]; omega)]
    rw [Int.natCast_zero] at hloop
    rw [hloop, bnd1_mk, bnd1_mk]
    unfold labels
    rw [if_neg e, List.take_zero, List.nil_append]

theorem slices_IndexFunc_Record_l0_eq {g : Rec → Option Bool} {p : Rec → Bool} : ∀ (l : List Rec) (i : Nat), (∀ r, r ∈ l → g r = some (p r)) → ∃ v, slices_IndexFunc_Record_l0 g l i = some v ∧ decide (0 ≤ v) = l.any p
  | [], i, _ => ⟨-1, rfl, rfl⟩
  | r :: l, i, h => by
    rw [slices_IndexFunc_Record_l0, h r (.head _), bnd1_mk]
    cases c : p r with
    | true => exact ⟨i, rfl, by simp [c]⟩
    | false =>
      obtain ⟨v, h1, h2⟩ := slices_IndexFunc_Record_l0_eq l (i + 1) fun q hq => h q (.tail _ hq)
      exact ⟨v, h1, by simp [c, h2]⟩

theorem slices_ContainsFunc_Record_eq {g : Rec → Option Bool} {p : Rec → Bool} {l : List Rec} (h : ∀ r, r ∈ l → g r = some (p r)) : slices_ContainsFunc_Record l g = some (l.any p) := by
  obtain ⟨v, h1, h2⟩ := slices_IndexFunc_Record_l0_eq l 0 h
  unfold slices_ContainsFunc_Record slices_IndexFunc_Record
  rw [h1, bnd1_mk, h2]

theorem segs_mem : ∀ (l cur x : List UInt8), x ∈ segs cur l → x.length ≤ cur.length + l.length
  | [], cur, x, h => by
    unfold segs at h
    rw [List.mem_singleton] at h
    subst h; simp
  | b :: l, cur, x, h => by
    unfold segs at h
    split at h
    · rcases List.mem_cons.1 h with h | h
      · subst h; simp
      · have := segs_mem l [] x h
        simp at this ⊢; omega
    · have := segs_mem l (cur ++ [b]) x h
      simp at this ⊢; omega

theorem labels_mem {s x : ByteArray} (h : x ∈ labels s) : x.size ≤ s.size := by
  unfold labels at h
  split at h
  · cases h
  · obtain ⟨y, hy, e⟩ := List.mem_map.1 h
    have h1 := segs_mem _ _ _ hy
    subst e
    rw [← bts_len, bts_mkB, ← bts_len s]
    simpa using h1

def chP (n : Int) : Bool := (decide (97 ≤ n) && decide (n ≤ 122)) || ((decide (48 ≤ n) && decide (n ≤ 57)) || (decide (n = 45) || decide (n = 95)))

def labelP (s : ByteArray) : Bool := ((bts s).all fun b => chP b.toNat) && (decide (1 ≤ (s.size : Int)) && decide ((s.size : Int) ≤ 12))

theorem s_l1In_eq {a b c : Int} : s_l1In a b c = some (decide (b ≤ a) && decide (a ≤ c)) := by
  unfold s_l1In; cases decide (b ≤ a) <;> rfl

theorem s_l2Byte_eq {b : UInt8} : s_l2Byte (b.toNat : Int) = some (chP b.toNat) := by
  have h := b.toNat_lt
  unfold s_l2Byte chP
  rw [wrap_id (by omega), s_l1In_eq, bnd1_mk, s_l1In_eq, bnd1_mk]
  cases decide (97 ≤ (b.toNat : Int)) && decide ((b.toNat : Int) ≤ 122) <;> cases decide (48 ≤ (b.toNat : Int)) && decide ((b.toNat : Int) ≤ 57) <;> cases decide ((b.toNat : Int) = 45) <;> rfl

theorem drop_all {s : ByteArray} {i : Nat} {b : UInt8} {p : UInt8 → Bool} (h : (bts s)[i]? = some b) : ((bts s).drop i).all p = (p b && ((bts s).drop (i + 1)).all p) := by
  obtain ⟨h1, h2⟩ := List.getElem?_eq_some_iff.1 h
  rw [List.drop_eq_getElem_cons h1, List.all_cons, h2]

theorem bts_get {s : ByteArray} {i : Nat} (h : i < s.size) : ∃ b, (bts s)[i]? = some b := ⟨(bts s)[i]'h, List.getElem?_eq_getElem h⟩

theorem s_LabelOk_l1_eq {s : ByteArray} (hs : s.size ≤ 1048576) : ∀ (k i fl : Nat), s.size - i = k → i ≤ s.size → k < fl → s_LabelOk_l1 s fl (i : Int) = some (((bts s).drop i).all (fun b => chP b.toNat) && (decide (1 ≤ (s.size : Int)) && decide ((s.size : Int) ≤ 12)))
  | 0, i, fl, hk, hi, hf => by
    obtain ⟨fl, rfl⟩ : ∃ q, fl = q + 1 := ⟨fl - 1, by omega⟩
    have c : ¬ ((i : Int) < (s.size : Int)) := by omega
    have e : (bts s).drop i = [] := List.drop_eq_nil_of_le (by rw [bts_len]; omega)
    rw [s_LabelOk_l1, decide_eq_false c, cond_false, e]
    unfold s_LabelOk_j0
    rw [s_l1In_eq]; rfl
  | k + 1, i, fl, hk, hi, hf => by
    obtain ⟨fl, rfl⟩ : ∃ q, fl = q + 1 := ⟨fl - 1, by omega⟩
    have c : (i : Int) < (s.size : Int) := by omega
    obtain ⟨b, hb⟩ := bts_get (s := s) (i := i) (by omega)
    have h := s_LabelOk_l1_eq hs k (i + 1) fl (by omega) (by omega) (by omega)
    rw [s_LabelOk_l1, decide_eq_true c, cond_true, sidx_nat hb, bnd1_mk, s_l2Byte_eq, bnd1_mk, grd_pos (by simp only [i64]; omega)]
    have e : ((i : Int) + 1) = ((i + 1 : Nat) : Int) := by omega
    rw [e, h, drop_all hb]
    cases chP b.toNat <;> rfl

theorem fuel_lt {k : Nat} (h : k ≤ 1048576) : k < fuel0 := by unfold fuel0; omega

theorem s_LabelOk_eq {s : ByteArray} (hs : s.size ≤ 1048576) : s_LabelOk s = some (labelP s) := by
  have h := s_LabelOk_l1_eq hs s.size 0 fuel0 (by omega) (by omega) (fuel_lt hs)
  unfold s_LabelOk
  exact h

theorem i_LabelOk_l1_eq {s : ByteArray} (hs : s.size ≤ 1048576) : ∀ (k i fl : Nat), s.size - i = k → i ≤ s.size → k < fl → i_LabelOk_l1 s fl (i : Int) = some (((bts s).drop i).all (fun b => chP b.toNat) && (decide (1 ≤ (s.size : Int)) && decide ((s.size : Int) ≤ 12)))
  | 0, i, fl, hk, hi, hf => by
    obtain ⟨fl, rfl⟩ : ∃ q, fl = q + 1 := ⟨fl - 1, by omega⟩
    have c : ¬ ((i : Int) < (s.size : Int)) := by omega
    have e : (bts s).drop i = [] := List.drop_eq_nil_of_le (by rw [bts_len]; omega)
    rw [i_LabelOk_l1, decide_eq_false c, cond_false, e]
    unfold i_LabelOk_j0
    cases decide (1 ≤ (s.size : Int)) <;> rfl
  | k + 1, i, fl, hk, hi, hf => by
    obtain ⟨fl, rfl⟩ : ∃ q, fl = q + 1 := ⟨fl - 1, by omega⟩
    have c : (i : Int) < (s.size : Int) := by omega
    obtain ⟨b, hb⟩ := bts_get (s := s) (i := i) (by omega)
    have h := i_LabelOk_l1_eq hs k (i + 1) fl (by omega) (by omega) (by omega)
    rw [i_LabelOk_l1, decide_eq_true c, cond_true, sidx_nat hb, bnd1_mk]
    have e : ((i : Int) + 1) = ((i + 1 : Nat) : Int) := by omega
    have hj : ∀ y : Bool, i_LabelOk_j2 (i : Int) (i_LabelOk_l1 s fl) y = some (!y && (((bts s).drop (i + 1)).all (fun b => chP b.toNat) && (decide (1 ≤ (s.size : Int)) && decide ((s.size : Int) ≤ 12)))) := by
      intro y
      unfold i_LabelOk_j2
      rw [grd_pos (by simp only [i64]; omega), e, h]
      cases y <;> rfl
    simp only [hj]
    rw [drop_all hb]
    have hc : chP b.toNat = !(((decide ((b.toNat : Int) < 97)) || decide (122 < (b.toNat : Int))) && ((decide ((b.toNat : Int) < 48) || decide (57 < (b.toNat : Int))) && ((!decide ((b.toNat : Int) = 45)) && !decide ((b.toNat : Int) = 95)))) := by
      have e1 : decide (97 ≤ (b.toNat : Int)) = !decide ((b.toNat : Int) < 97) := by by_cases c : (b.toNat : Int) < 97 <;> simp [c] <;> omega
      have e2 : decide ((b.toNat : Int) ≤ 122) = !decide (122 < (b.toNat : Int)) := by by_cases c : 122 < (b.toNat : Int) <;> simp [c] <;> omega
      have e3 : decide (48 ≤ (b.toNat : Int)) = !decide ((b.toNat : Int) < 48) := by by_cases c : (b.toNat : Int) < 48 <;> simp [c] <;> omega
      have e4 : decide ((b.toNat : Int) ≤ 57) = !decide (57 < (b.toNat : Int)) := by by_cases c : 57 < (b.toNat : Int) <;> simp [c] <;> omega
      unfold chP
      rw [e1, e2, e3, e4]
      cases decide ((b.toNat : Int) < 97) <;> cases decide (122 < (b.toNat : Int)) <;> cases decide ((b.toNat : Int) < 48) <;> cases decide (57 < (b.toNat : Int)) <;> cases decide ((b.toNat : Int) = 45) <;> cases decide ((b.toNat : Int) = 95) <;> rfl
    rw [hc]
    rw [Bool.and_assoc]
    generalize (((bts s).drop (i + 1)).all (fun b => chP b.toNat) && (decide (1 ≤ (s.size : Int)) && decide ((s.size : Int) ≤ 12))) = R
    cases decide ((b.toNat : Int) < 97) <;> cases decide (122 < (b.toNat : Int)) <;> cases decide ((b.toNat : Int) < 48) <;> cases decide (57 < (b.toNat : Int)) <;> cases decide ((b.toNat : Int) = 45) <;> cases decide ((b.toNat : Int) = 95) <;> rfl

theorem i_LabelOk_eq {s : ByteArray} (hs : s.size ≤ 1048576) : i_LabelOk s = some (labelP s) := by
  have h := i_LabelOk_l1_eq hs s.size 0 fuel0 (by omega) (by omega) (fuel_lt hs)
  unfold i_LabelOk
  exact h

def nameP (s : ByteArray) : Bool := (labels s).all labelP && (decide ((s.size : Int) ≤ 50) && decide (((labels s).length : Int) ≤ 6))

theorem s_NameOk_l1_eq {s : ByteArray} : ∀ (l : List ByteArray) (i : Nat), (∀ x, x ∈ l → x.size ≤ 1048576) → s_NameOk_l1 s (labels s) l i = some (l.all labelP && (decide ((s.size : Int) ≤ 50) && decide (((labels s).length : Int) ≤ 6)))
  | [], i, _ => by
    rw [s_NameOk_l1]; unfold s_NameOk_j0
    cases decide ((s.size : Int) ≤ 50) <;> rfl
  | x :: l, i, h => by
    rw [s_NameOk_l1, s_LabelOk_eq (h x (.head _)), bnd1_mk, s_NameOk_l1_eq l (i + 1) fun y hy => h y (.tail _ hy), List.all_cons]
    cases labelP x <;> rfl

theorem s_NameOk_eq {s : ByteArray} (hs : s.size ≤ 1048576) : s_NameOk s = some (nameP s) := by
  unfold s_NameOk
  rw [s_Labels_eq hs, bnd1_mk, s_NameOk_l1_eq _ _ fun x hx => Nat.le_trans (labels_mem hx) hs]; rfl

theorem slices_IndexFunc_string_l0_eq {g : ByteArray → Option Bool} {p : ByteArray → Bool} : ∀ (l : List ByteArray) (i : Nat), (∀ r, r ∈ l → g r = some (p r)) → ∃ v, slices_IndexFunc_string_l0 g l i = some v ∧ decide (0 ≤ v) = l.any p
  | [], i, _ => ⟨-1, rfl, rfl⟩
  | r :: l, i, h => by
    rw [slices_IndexFunc_string_l0, h r (.head _), bnd1_mk]
    cases c : p r with
    | true => exact ⟨i, rfl, by simp [c]⟩
    | false =>
      obtain ⟨v, h1, h2⟩ := slices_IndexFunc_string_l0_eq l (i + 1) fun q hq => h q (.tail _ hq)
      exact ⟨v, h1, by simp [c, h2]⟩

theorem slices_ContainsFunc_string_eq {g : ByteArray → Option Bool} {p : ByteArray → Bool} {l : List ByteArray} (h : ∀ r, r ∈ l → g r = some (p r)) : slices_ContainsFunc_string l g = some (l.any p) := by
  obtain ⟨v, h1, h2⟩ := slices_IndexFunc_string_l0_eq l 0 h
  unfold slices_ContainsFunc_string slices_IndexFunc_string
  rw [h1, bnd1_mk, h2]

theorem any_not_all {α : Type} (p : α → Bool) : ∀ l : List α, (!l.any fun x => !p x) = l.all p
  | [] => rfl
  | x :: l => by rw [List.any_cons, List.all_cons, ← any_not_all p l]; cases p x <;> simp

theorem i_NameOk_eq {s : ByteArray} (hs : s.size ≤ 1048576) : i_NameOk s = some (nameP s) := by
  unfold i_NameOk nameP
  rw [i_Labels_eq hs, bnd1_mk, slices_ContainsFunc_string_eq (p := fun x => !labelP x) fun r hr => by unfold i_NameOk_1; rw [i_LabelOk_eq (Nat.le_trans (labels_mem hr) hs)]; rfl, bnd1_mk, any_not_all]
  cases decide ((s.size : Int) ≤ 50) <;> cases decide (((labels s).length : Int) ≤ 6) <;> cases (labels s).all labelP <;> rfl

def typeP (k : Int) : Bool := decide (k = 1) || (decide (k = 2) || (decide (k = 5) || (decide (k = 6) || decide (k = 16))))

theorem s_TypeOk_eq {k : Int} : s_TypeOk k = some (typeP k) := by
  unfold s_TypeOk typeP
  cases decide (k = 1) <;> cases decide (k = 2) <;> cases decide (k = 5) <;> cases decide (k = 6) <;> rfl

theorem i_TypeOk_eq {k : Int} : i_TypeOk k = some (typeP k) := by
  have e : ∀ a : ByteArray, bnd1 (some a) (fun x1 => some (!decide (x1 = (⟨#[]⟩ : ByteArray)))) = some (!decide (a = (⟨#[]⟩ : ByteArray))) := fun _ => rfl
  unfold i_TypeOk i_TypeText typeP
  cases decide (k = 1) <;> cases decide (k = 2) <;> cases decide (k = 5) <;> cases decide (k = 6) <;> cases decide (k = 16) <;> rfl

def questP (q : Quest) : Bool := nameP q.name && typeP q.ty

theorem s_QuestOk_eq {q : Quest} (h : q.sm) : s_QuestOk q = some (questP q) := by
  unfold s_QuestOk questP
  rw [s_NameOk_eq h, bnd1_mk, s_TypeOk_eq]
  cases nameP q.name <;> rfl

theorem i_QuestOk_eq {q : Quest} (h : q.sm) : i_QuestOk q = some (questP q) := by
  unfold i_QuestOk questP
  rw [i_NameOk_eq h, bnd1_mk, i_TypeOk_eq]
  cases nameP q.name <;> rfl

theorem textTail {s : ByteArray} {i : Nat} (h : ¬ ((i : Int) < (s.size : Int))) : (bts s).drop i = [] := List.drop_eq_nil_of_le (by rw [bts_len]; omega)

def txP (n : Int) : Bool := decide (33 ≤ n) && decide (n ≤ 126)

def textP (s : ByteArray) : Bool := ((bts s).all fun b => txP b.toNat) && decide ((s.size : Int) ≤ 12)

theorem s_l5Text_l1_eq {s : ByteArray} (hs : s.size ≤ 1048576) : ∀ (k i fl : Nat), s.size - i = k → i ≤ s.size → k < fl → s_l5Text_l1 s fl (i : Int) = some (((bts s).drop i).all (fun b => txP b.toNat) && decide ((s.size : Int) ≤ 12))
  | 0, i, fl, hk, hi, hf => by
    obtain ⟨fl, rfl⟩ : ∃ q, fl = q + 1 := ⟨fl - 1, by omega⟩
    have c : ¬ ((i : Int) < (s.size : Int)) := by omega
    rw [s_l5Text_l1, decide_eq_false c, cond_false, textTail c]
    rfl
  | k + 1, i, fl, hk, hi, hf => by
    obtain ⟨fl, rfl⟩ : ∃ q, fl = q + 1 := ⟨fl - 1, by omega⟩
    have c : (i : Int) < (s.size : Int) := by omega
    obtain ⟨b, hb⟩ := bts_get (s := s) (i := i) (by omega)
    have hl := b.toNat_lt
    have h := s_l5Text_l1_eq hs k (i + 1) fl (by omega) (by omega) (by omega)
    have e : ((i : Int) + 1) = ((i + 1 : Nat) : Int) := by omega
    rw [s_l5Text_l1, decide_eq_true c, cond_true, sidx_nat hb, bnd1_mk, wrap_id (by omega), s_l1In_eq, bnd1_mk, grd_pos (by simp only [i64]; omega), e, h, drop_all hb, Bool.and_assoc]
    unfold txP
    cases decide (33 ≤ (b.toNat : Int)) && decide ((b.toNat : Int) ≤ 126) <;> rfl

theorem s_l5Text_eq {s : ByteArray} (hs : s.size ≤ 1048576) : s_l5Text s = some (textP s) := by
  have h := s_l5Text_l1_eq hs s.size 0 fuel0 (by omega) (by omega) (fuel_lt hs)
  unfold s_l5Text
  exact h

theorem i_isText_l1_eq {s : ByteArray} (hs : s.size ≤ 1048576) : ∀ (k i fl : Nat), s.size - i = k → i ≤ s.size → k < fl → i_isText_l1 s fl (i : Int) = some (((bts s).drop i).all (fun b => txP b.toNat) && decide ((s.size : Int) ≤ 12))
  | 0, i, fl, hk, hi, hf => by
    obtain ⟨fl, rfl⟩ : ∃ q, fl = q + 1 := ⟨fl - 1, by omega⟩
    have c : ¬ ((i : Int) < (s.size : Int)) := by omega
    rw [i_isText_l1, decide_eq_false c, cond_false, textTail c]
    rfl
  | k + 1, i, fl, hk, hi, hf => by
    obtain ⟨fl, rfl⟩ : ∃ q, fl = q + 1 := ⟨fl - 1, by omega⟩
    have c : (i : Int) < (s.size : Int) := by omega
    obtain ⟨b, hb⟩ := bts_get (s := s) (i := i) (by omega)
    have h := i_isText_l1_eq hs k (i + 1) fl (by omega) (by omega) (by omega)
    have e : ((i : Int) + 1) = ((i + 1 : Nat) : Int) := by omega
    have hj : ∀ y : Bool, i_isText_j2 (i : Int) (i_isText_l1 s fl) y = some (!y && (((bts s).drop (i + 1)).all (fun b => txP b.toNat) && decide ((s.size : Int) ≤ 12))) := by
      intro y
      unfold i_isText_j2
      rw [grd_pos (by simp only [i64]; omega), e, h]
      cases y <;> rfl
    rw [i_isText_l1, decide_eq_true c, cond_true, sidx_nat hb, bnd1_mk, bnd1_mk, hj, hj, drop_all hb, Bool.and_assoc]
    have e1 : decide (33 ≤ (b.toNat : Int)) = !decide ((b.toNat : Int) < 33) := by by_cases c : (b.toNat : Int) < 33 <;> simp [c] <;> omega
    have e2 : decide ((b.toNat : Int) ≤ 126) = !decide (126 < (b.toNat : Int)) := by by_cases c : 126 < (b.toNat : Int) <;> simp [c] <;> omega
    unfold txP
    rw [e1, e2]
    generalize (((bts s).drop (i + 1)).all (fun b => decide (33 ≤ (b.toNat : Int)) && decide ((b.toNat : Int) ≤ 126)) && decide ((s.size : Int) ≤ 12)) = R
    cases decide ((b.toNat : Int) < 33) <;> cases decide (126 < (b.toNat : Int)) <;> rfl

theorem i_isText_eq {s : ByteArray} (hs : s.size ≤ 1048576) : i_isText s = some (textP s) := by
  have h := i_isText_l1_eq hs s.size 0 fuel0 (by omega) (by omega) (fuel_lt hs)
  unfold i_isText
  exact h

def inP (a b c : Int) : Bool := decide (b ≤ a) && decide (a ≤ c)

theorem i_isTtl_eq {a : Int} : i_isTtl a = some (inP a 0 100000) := by
  unfold i_isTtl inP; cases decide (0 ≤ a) <;> rfl

theorem i_isFour_eq {a : Int} : i_isFour a = some (inP a 0 2147483647) := by
  unfold i_isFour inP; cases decide (0 ≤ a) <;> rfl

def nilP (s : ByteArray) : Bool := decide (s = (⟨#[]⟩ : ByteArray))

def recP (r : Rec) : Bool :=
  nameP r.name && (inP r.ttl 0 100000 && (bif decide (r.ty = 1) then inP r.n 0 2147483647 && (nilP r.host && nilP r.text) else (bif decide (r.ty = 2) || decide (r.ty = 5) then decide (r.n = 0) && (nameP r.host && nilP r.text)
    else (bif decide (r.ty = 6) then inP r.n 0 100000 && (nameP r.host && nilP r.text) else decide (r.ty = 16) && (decide (r.n = 0) && (nilP r.host && textP r.text))))))

theorem s_RecordOk_eq {r : Rec} (h : r.sm) : s_RecordOk r = some (recP r) := by
  obtain ⟨h1, h2, h3⟩ := h
  unfold s_RecordOk s_RecordOk_j0 s_RecordOk_j1 recP nilP
  rw [s_NameOk_eq h1, bnd1_mk, s_l1In_eq, bnd1_mk, s_l1In_eq, bnd1_mk, s_l1In_eq, bnd1_mk, s_NameOk_eq h2, bnd1_mk, s_l5Text_eq h3, bnd1_mk]
  unfold inP
  generalize (decide (0 ≤ r.ttl) && decide (r.ttl ≤ 100000)) = a
  generalize (decide (0 ≤ r.n) && decide (r.n ≤ 2147483647)) = b
  generalize (decide (0 ≤ r.n) && decide (r.n ≤ 100000)) = d
  cases nameP r.name <;> cases a <;> cases decide (r.ty = 1) <;> cases decide (r.ty = 2) <;> cases decide (r.ty = 5) <;> cases decide (r.ty = 6) <;> cases decide (r.ty = 16) <;> try rfl
  all_goals (cases b <;> cases d <;> cases decide (r.n = 0) <;> cases nameP r.host <;> cases decide (r.host = (⟨#[]⟩ : ByteArray)) <;> rfl)

theorem i_RecordOk_eq {r : Rec} (h : r.sm) : i_RecordOk r = some (recP r) := by
  obtain ⟨h1, h2, h3⟩ := h
  unfold i_RecordOk i_RecordOk_j0 i_RecordOk_j1 recP nilP
  rw [i_NameOk_eq h1, bnd1_mk, i_isTtl_eq, bnd1_mk, i_isFour_eq, bnd1_mk, i_isTtl_eq, bnd1_mk, i_NameOk_eq h2, bnd1_mk, i_isText_eq h3, bnd1_mk]
  generalize inP r.ttl 0 100000 = a
  generalize inP r.n 0 2147483647 = b
  generalize inP r.n 0 100000 = d
  cases nameP r.name <;> cases a <;> cases decide (r.ty = 1) <;> cases decide (r.ty = 2) <;> cases decide (r.ty = 5) <;> cases decide (r.ty = 6) <;> cases decide (r.ty = 16) <;> try rfl
  all_goals (cases b <;> cases d <;> cases decide (r.n = 0) <;> cases nameP r.host <;> cases decide (r.host = (⟨#[]⟩ : ByteArray)) <;> rfl)

def listP (k : Int) (l : List Rec) : Bool := l.all recP && decide ((l.length : Int) ≤ k)

theorem s_l7List_l1_eq {w : List Rec} : ∀ (l : List Rec) (i : Nat), (∀ r, r ∈ l → r.sm) → s_l7List_l1 w l i = some (l.all recP && decide ((w.length : Int) ≤ 8))
  | [], i, _ => rfl
  | r :: l, i, h => by
    rw [s_l7List_l1, s_RecordOk_eq (h r (.head _)), bnd1_mk, s_l7List_l1_eq l (i + 1) fun q hq => h q (.tail _ hq), List.all_cons]
    cases recP r <;> rfl

theorem s_l7List_eq {l : List Rec} (h : smL l) : s_l7List l = some (listP 8 l) := s_l7List_l1_eq l 0 h.2

theorem i_allOk_eq {l : List Rec} {k : Int} (h : smL l) : i_allOk l k = some (listP k l) := by
  unfold i_allOk listP
  rw [slices_ContainsFunc_Record_eq (p := fun r => !recP r) fun r hr => by unfold i_allOk_1; rw [i_RecordOk_eq (h.2 r hr)]; rfl, bnd1_mk, any_not_all]
  cases decide ((l.length : Int) ≤ k) <;> cases l.all recP <;> rfl

def MEntry.sm (x : MEntry) : Prop := x.q.sm ∧ smL x.l

theorem w_szEntry_p {x : MEntry} {n : Int} (hx : x.ok) (hn : 0 ≤ n ∧ n ≤ 1048576) : ∃ v, w_szEntry x n = some v ∧ v ≤ n ∧ (0 ≤ v → x.sm) := by
  obtain ⟨v, h3, h4, h5⟩ := w_szQuest_p hx.1 hn
  unfold w_szEntry
  rw [h3, bnd1_mk]
  by_cases c : v < 0
  · exact ⟨-1, by simp [c], by omega, by omega⟩
  obtain ⟨u, k3, k4, k5⟩ := w_szRecordS_p (l := x.l) (n := v) (by have := hx; exact ⟨this.2.2.1.1, this.2.2.1.2⟩) (by omega)
  rw [decide_eq_false c, cond_false, k3, bnd1_mk]
  by_cases c' : u < 0
  · exact ⟨-1, by simp [c'], by omega, by omega⟩
  · exact ⟨u, by simp [c'], by omega, fun _ => ⟨h5 (by omega), k5 (by omega)⟩⟩

theorem w_toEntry_eq {x : MEntry} (h : x.sm) : w_toEntry x = some x := by
  unfold w_toEntry; rw [w_toQuest_eq, bnd1_mk, w_toRecordS_eq (Nat.le_trans h.2.1 (by decide)), bnd1_mk]

theorem w_eqEntry_self {x : MEntry} : w_eqEntry x x = some true := by unfold w_eqEntry; simp [w_eqQuest_self, w_eqRecordS_self]

def sameQ (q : Quest) (r : Rec) : Bool := decide (r.name = q.name) && decide (r.ty = q.ty)

def entryP (e : MEntry) : Bool :=
  inP e.rank 1 3 && (!decide (e.til < 0) && (bif decide (e.kind = 0) then e.l.all (sameQ e.q) && (questP e.q && (decide (0 < (e.l.length : Int)) && listP 8 e.l))
    else (bif decide (e.kind = 1) then questP e.q && decide ((e.l.length : Int) = 0) else decide (e.kind = 2) && (nameP e.q.name && (decide (e.q.ty = 0) && decide ((e.l.length : Int) = 0))))))

theorem s_EntryOk_l3_eq {e : MEntry} (h : e.sm) : ∀ (l : List Rec) (i : Nat), s_EntryOk_l3 e l i = some (l.all (sameQ e.q) && (questP e.q && (decide (0 < (e.l.length : Int)) && listP 8 e.l)))
  | [], i => by
    rw [s_EntryOk_l3]
    unfold s_EntryOk_j2
    rw [s_QuestOk_eq h.1, bnd1_mk, s_l7List_eq h.2, bnd1_mk]
    cases questP e.q <;> cases decide (0 < (e.l.length : Int)) <;> rfl
  | r :: l, i => by
    have hj : ∀ y, s_EntryOk_j4 i (s_EntryOk_l3 e l) y = some (!y && (l.all (sameQ e.q) && (questP e.q && (decide (0 < (e.l.length : Int)) && listP 8 e.l)))) := by
      intro y
      unfold s_EntryOk_j4
      rw [s_EntryOk_l3_eq h l (i + 1)]
      cases y <;> rfl
    rw [s_EntryOk_l3, hj, hj, List.all_cons]
    unfold sameQ
    cases decide (r.name = e.q.name) <;> cases decide (r.ty = e.q.ty) <;> rfl

theorem s_EntryOk_eq {e : MEntry} (h : e.sm) : s_EntryOk e = some (entryP e) := by
  unfold s_EntryOk s_EntryOk_j0 s_EntryOk_j1 entryP
  rw [s_l1In_eq, bnd1_mk, s_EntryOk_l3_eq h, s_QuestOk_eq h.1, bnd1_mk, s_NameOk_eq h.1, bnd1_mk]
  unfold inP
  generalize (decide (1 ≤ e.rank) && decide (e.rank ≤ 3)) = a
  cases a <;> cases decide (e.til < 0) <;> cases decide (e.kind = 0) <;> cases decide (e.kind = 1) <;> cases decide (e.kind = 2) <;> cases questP e.q <;> cases nameP e.q.name <;> cases decide (e.q.ty = 0) <;> rfl

theorem setOf_all {l : List Rec} {q : Quest} : decide (((setOf l q.name q.ty).length : Int) = (l.length : Int)) = l.all (sameQ q) := by
  have h : ((setOf l q.name q.ty).length = l.length) ↔ (l.all (sameQ q) = true) := by
    rw [List.all_eq_true]
    unfold setOf
    rw [List.length_filter_eq_length_iff]
    rfl
  by_cases c : l.all (sameQ q) = true
  · rw [c]; exact decide_eq_true (by rw [h.2 c])
  · have c2 : ¬ ((setOf l q.name q.ty).length = l.length) := fun x => c (h.1 x)
    rw [Bool.not_eq_true] at c
    rw [c]; exact decide_eq_false (by omega)

theorem i_EntryOk_eq {e : MEntry} (h : e.sm) : i_EntryOk e = some (entryP e) := by
  unfold i_EntryOk i_EntryOk_j0 entryP
  rw [i_QuestOk_eq h.1, bnd1_mk, bnd1_mk, i_NameOk_eq h.1, bnd1_mk, i_allOk_eq h.2, bnd1_mk, i_SetOf_eq h.2, bnd1_mk, setOf_all]
  unfold inP
  have e1 : decide (1 ≤ e.rank) = !decide (e.rank < 1) := by by_cases c : e.rank < 1 <;> simp [c] <;> omega
  have e2 : decide (e.rank ≤ 3) = !decide (3 < e.rank) := by by_cases c : 3 < e.rank <;> simp [c] <;> omega
  rw [e1, e2]
  cases decide (e.rank < 1) <;> cases decide (3 < e.rank) <;> cases decide (e.til < 0) <;> cases decide (e.kind = 0) <;> cases decide (e.kind = 1) <;> cases decide (e.kind = 2) <;> try rfl
  all_goals (cases questP e.q <;> cases nameP e.q.name <;> cases decide (e.q.ty = 0) <;> try rfl)
  all_goals (cases decide (0 < (e.l.length : Int)) <;> cases listP 8 e.l <;> cases e.l.all (sameQ e.q) <;> rfl)

theorem bL_irr : ∀ x : List UInt8, Op.bytesLess x x = false
  | [] => rfl
  | a :: x => by simp [Op.bytesLess, bL_irr x, UInt8.lt_irrefl]

theorem bL_trans : ∀ x y z : List UInt8, Op.bytesLess x y = true → Op.bytesLess y z = true → Op.bytesLess x z = true
  | [], [], _, h, _ => by simp [Op.bytesLess] at h
  | [], _ :: _, [], _, h => by simp [Op.bytesLess] at h
  | [], _ :: _, _ :: _, _, _ => rfl
  | _ :: _, [], _, h, _ => by simp [Op.bytesLess] at h
  | _ :: _, _ :: _, [], _, h => by simp [Op.bytesLess] at h
  | a :: x, b :: y, c :: z, h, k => by
    simp only [Op.bytesLess, Bool.or_eq_true, decide_eq_true_eq, Bool.and_eq_true, beq_iff_eq] at h k ⊢
    rcases h with h | ⟨h, h'⟩ <;> rcases k with k | ⟨k, k'⟩
    · exact .inl (UInt8.lt_trans h k)
    · exact .inl (k ▸ h)
    · exact .inl (h ▸ k)
    · exact .inr ⟨h.trans k, bL_trans x y z h' k'⟩

def bl (a b : ByteArray) : Bool := Op.bytesLess (bts a) (bts b)

theorem bl_irr (a : ByteArray) : bl a a = false := bL_irr _

theorem bl_trans (a b c : ByteArray) (h : bl a b = true) (k : bl b c = true) : bl a c = true := bL_trans _ _ _ h k

def lexN : List ByteArray → List ByteArray → Bool
  | _, [] => false
  | [], _ :: _ => true
  | x :: xs, y :: ys => if x = y then lexN xs ys else bl x y

theorem lexN_irr : ∀ x : List ByteArray, lexN x x = false
  | [] => rfl
  | a :: x => by simp [lexN, lexN_irr x]

theorem lexN_trans : ∀ x y z : List ByteArray, lexN x y = true → lexN y z = true → lexN x z = true
  | [], [], _, h, _ => by simp [lexN] at h
  | [], _ :: _, [], _, h => by simp [lexN] at h
  | [], _ :: _, _ :: _, _, _ => rfl
  | _ :: _, [], _, h, _ => by simp [lexN] at h
  | _ :: _, _ :: _, [], _, h => by simp [lexN] at h
  | a :: x, b :: y, c :: z, h, k => by
    unfold lexN at h k ⊢
    by_cases e1 : a = b
    · subst e1
      rw [if_pos rfl] at h
      by_cases e2 : a = c
      · rw [if_pos e2] at k ⊢; exact lexN_trans x y z h k
      · rw [if_neg e2] at k ⊢; exact k
    · rw [if_neg e1] at h
      by_cases e2 : b = c
      · subst e2; rw [if_neg e1]; exact h
      · rw [if_neg e2] at k
        have h3 := bl_trans a b c h k
        by_cases e3 : a = c
        · subst e3; rw [bl_irr] at h3; cases h3
        · rw [if_neg e3]; exact h3

def lessN (a b : ByteArray) : Bool := lexN (labels a).reverse (labels b).reverse

theorem lessN_irr (a : ByteArray) : lessN a a = false := lexN_irr _

theorem lessN_trans (a b c : ByteArray) (h : lessN a b = true) (k : lessN b c = true) : lessN a c = true := lexN_trans _ _ _ h k

def lx {α : Type} [DecidableEq α] (lt : α → α → Bool) (x y : α) (r : Bool) : Bool := if x = y then r else lt x y

def lti (a b : Int) : Bool := decide (a < b)

def lessR (a b : Rec) : Bool := lx lessN a.name b.name (lx lti a.ty b.ty (lx lti a.n b.n (lx lessN a.host b.host (lx bl a.text b.text (lti a.ttl b.ttl)))))

def lt (a b : Rec) : Prop := lessR a b = true

theorem name_or {a b : Rec} (h : lt a b) : a.name = b.name ∨ lessN a.name b.name = true := by
  unfold lt lessR lx at h
  by_cases c : a.name = b.name
  · exact .inl c
  · rw [if_neg c] at h; exact .inr h

theorem between {a b c : Rec} (h : lt a b) (k : lt b c) (e : a.name = c.name) (e' : a.ty = c.ty) : b.name = a.name ∧ b.ty = a.ty := by
  have h1 : a.name = b.name := by
    rcases name_or h with h1 | h1
    · exact h1
    · rcases name_or k with h2 | h2
      · rw [e, h2, lessN_irr] at h1; cases h1
      · have := lessN_trans _ _ _ h1 h2
        rw [e, lessN_irr] at this; cases this
  refine ⟨h1.symm, ?_⟩
  unfold lt lessR lx at h k
  rw [if_pos h1] at h
  rw [if_pos (h1.symm.trans e)] at k
  by_cases c1 : a.ty = b.ty
  · exact c1.symm
  · rw [if_neg c1] at h
    by_cases c2 : b.ty = c.ty
    · exact c2.trans e'.symm
    · rw [if_neg c2] at k
      simp only [lti, decide_eq_true_eq] at h k; omega

def MCache.sm (c : MCache) : Prop := c.l.length ≤ 1048576 ∧ ∀ e, e ∈ c.l → e.sm

theorem w_szEntryS_l0_p : ∀ (l : List MEntry) (n : Int) (i : Nat), (∀ r, r ∈ l → r.ok) → 0 ≤ n ∧ n ≤ 1048576 → ∃ v, w_szEntryS_l0 l n i = some v ∧ v ≤ n ∧ (0 ≤ v → ∀ r, r ∈ l → r.sm)
  | [], n, i, _, _ => ⟨n, rfl, Int.le_refl _, fun _ r hr => by cases hr⟩
  | r :: l, n, i, hr, hn => by
    obtain ⟨v, h1, h2, h2'⟩ := w_szEntry_p (hr r (.head _)) hn
    rw [w_szEntryS_l0, h1]
    by_cases c : v < 0
    · exact ⟨-1, by simp [c], by omega, by omega⟩
    · obtain ⟨w, h3, h4, h5⟩ := w_szEntryS_l0_p l v (i + 1) (fun q hq => hr q (.tail _ hq)) (by omega)
      exact ⟨w, by simp [c, h3], by omega, fun h q hq => by
        cases hq with
        | head => exact h2' (by omega)
        | tail _ hq => exact h5 h q hq⟩

theorem w_szEntryS_p {l : List MEntry} {n : Int} (hl : l.length ≤ 9223372036854775807 ∧ ∀ r, r ∈ l → r.ok) (hn : 0 ≤ n ∧ n ≤ 1048576) : ∃ v, w_szEntryS l n = some v ∧ v ≤ n ∧ (0 ≤ v → l.length ≤ 1048576 ∧ ∀ r, r ∈ l → r.sm) := by
  obtain ⟨h0, hr⟩ := hl
  unfold w_szEntryS
  rw [grd_pos (by simp only [i64]; omega)]
  by_cases c : n - (l.length : Int) < 0
  · exact ⟨-1, by simp [c], by omega, by omega⟩
  · obtain ⟨v, h1, h2, h3⟩ := w_szEntryS_l0_p l (n - l.length) 0 hr (by omega)
    exact ⟨v, by simp [c, h1], by omega, fun h => ⟨by omega, h3 h⟩⟩

theorem w_szCache_p {f : MCache} {n : Int} (hf : f.ok) (hn : 0 ≤ n ∧ n ≤ 1048576) : ∃ v, w_szCache f n = some v ∧ v ≤ n ∧ (0 ≤ v → f.sm) := by
  unfold w_szCache
  obtain ⟨a, a1, a2, a3⟩ := w_szEntryS_p hf.2 hn
  by_cases c : a < 0
  · exact ⟨-1, by simp [a1, c], by omega, by omega⟩
  · exact ⟨a, by simp [a1, c], by omega, fun _ => a3 (by omega)⟩

theorem w_toEntryS_l0_eq : ∀ (t pre : List MEntry) (z : List MEntry), z.length = t.length → (∀ r, r ∈ t → r.sm) → w_toEntryS_l0 t (pre ++ z) pre.length = some (pre ++ t)
  | [], pre, z, hz, _ => by cases z with | nil => rfl | cons a b => simp at hz
  | r :: t, pre, z, hz, h => by
    cases z with
    | nil => simp at hz
    | cons a z =>
      rw [w_toEntryS_l0]
      have := w_toEntryS_l0_eq t (pre ++ [r]) z (by simpa using hz) (fun q hq => h q (.tail _ hq))
      rw [w_toEntry_eq (h r (.head _))]
      simp only [bnd1_mk, idx_nat]
      simp [bnd1] at this ⊢
      simpa using this

theorem w_toEntryS_eq {l : List MEntry} (h : l.length ≤ 1099511627776) (hs : ∀ r, r ∈ l → r.sm) : w_toEntryS l = some l := by
  unfold w_toEntryS
  rw [grd_pos (by omega)]
  have := w_toEntryS_l0_eq l [] (List.replicate l.length ⟨⟨⟨#[]⟩, 0⟩, 0, [], 0, 0⟩) (by simp) hs
  simpa using this

theorem w_toCache_eq {c : MCache} (h : c.sm) : w_toCache c = some c := by
  unfold w_toCache
  rw [w_toEntryS_eq (Nat.le_trans h.1 (by decide)) h.2, bnd1_mk]

theorem w_eqEntryS_l0_self : ∀ (t pre : List MEntry), w_eqEntryS_l0 (pre ++ t) t pre.length = some true
  | [], pre => rfl
  | r :: t, pre => by
    rw [w_eqEntryS_l0]
    have := w_eqEntryS_l0_self t (pre ++ [r])
    simp only [idx_nat]
    simp [w_eqEntry_self] at this ⊢
    exact this

theorem w_eqEntryS_self {l : List MEntry} : w_eqEntryS l l = some true := by
  unfold w_eqEntryS
  have := w_eqEntryS_l0_self l []
  simpa using this

theorem w_eqCache_self {c : MCache} : w_eqCache c c = some true := by unfold w_eqCache; simp [w_eqEntryS_self]

def qEq (a b : Quest) : Bool := decide (a.name = b.name) && decide (a.ty = b.ty)

theorem qEq_true (a b : Quest) : (decide (a.name = b.name) && (decide (a.ty = b.ty) && true)) = qEq a b := by unfold qEq; rw [Bool.and_true]

theorem qEq_iff {a b : Quest} : qEq a b = true ↔ a = b := by
  unfold qEq
  obtain ⟨a1, a2⟩ := a; obtain ⟨b1, b2⟩ := b
  simp

theorem s_l15At_l0_eq {q : Quest} : ∀ (l : List MEntry) (i : Nat), s_l15At_l0 q l i = some (match l.findIdx? (fun e => qEq e.q q) with | some k => ((i + k : Nat) : Int) | none => -1)
  | [], i => rfl
  | e :: l, i => by
    rw [s_l15At_l0, qEq_true, s_l15At_l0_eq l (i + 1), List.findIdx?_cons]
    cases qEq e.q q with
    | true => rfl
    | false =>
      simp only [cond_false, Bool.false_eq_true, if_false]
      cases l.findIdx? (fun e => qEq e.q q) with
      | none => rfl
      | some k => simp only [Option.map_some]; congr 2; omega

def atQ (l : List MEntry) (q : Quest) : Int := match l.findIdx? (fun e => qEq e.q q) with | some k => (k : Int) | none => -1

theorem s_l15At_eq {c : MCache} {q : Quest} : s_l15At c q = some (atQ c.l q) := by
  unfold s_l15At atQ
  rw [s_l15At_l0_eq]
  cases c.l.findIdx? (fun e => qEq e.q q) with
  | none => rfl
  | some k => simp

theorem atQ_first {pre post : List MEntry} {e : MEntry} : decide (atQ (pre ++ e :: post) e.q = (pre.length : Int)) = !pre.any fun x => qEq x.q e.q := by
  unfold atQ
  rw [List.findIdx?_append, List.findIdx?_cons]
  have hs : qEq e.q e.q = true := qEq_iff.2 rfl
  rw [hs]
  cases h : pre.findIdx? (fun x => qEq x.q e.q) with
  | none =>
    have : pre.any (fun x => qEq x.q e.q) = false := by
      rw [List.findIdx?_eq_none_iff] at h
      rw [List.any_eq_false]; intro x hx; rw [h x hx]; simp
    simp [this]
  | some k =>
    have hk := List.findIdx?_eq_some_iff_getElem.1 h
    obtain ⟨h1, h2, -⟩ := hk
    have : pre.any (fun x => qEq x.q e.q) = true := List.any_eq_true.2 ⟨_, List.getElem_mem h1, h2⟩
    have hne : ¬ ((k : Int) = (pre.length : Int)) := by omega
    simp [this, hne]

def keysP : List MEntry → List MEntry → Bool
  | _, [] => true
  | pre, e :: t => (entryP e && !pre.any fun x => qEq x.q e.q) && keysP (pre ++ [e]) t

def cacheP (c : MCache) : Bool := keysP [] c.l && (inP c.cap 1 60 && decide ((c.l.length : Int) ≤ c.cap))

theorem s_CacheOk_l1_eq {c : MCache} : ∀ (l pre : List MEntry), (∀ e, e ∈ l → e.sm) → c.l = pre ++ l → s_CacheOk_l1 c l pre.length = some (keysP pre l && (inP c.cap 1 60 && decide ((c.l.length : Int) ≤ c.cap)))
  | [], pre, _, _ => by
    unfold s_CacheOk_l1 s_CacheOk_j0
    rw [s_l1In_eq, bnd1_mk]
    unfold keysP inP
    cases (decide (1 ≤ c.cap) && decide (c.cap ≤ 60)) <;> rfl
  | e :: l, pre, hs, hl => by
    have ih := s_CacheOk_l1_eq l (pre ++ [e]) (fun x hx => hs x (.tail _ hx)) (by rw [hl]; simp)
    rw [show (pre ++ [e]).length = pre.length + 1 by simp] at ih
    rw [s_CacheOk_l1, s_EntryOk_eq (hs e (.head _)), bnd1_mk, s_l15At_eq, bnd1_mk, hl, atQ_first, ← hl]
    unfold s_CacheOk_j2 keysP
    rw [ih]
    cases entryP e <;> cases pre.any (fun x => qEq x.q e.q) <;> rfl

theorem s_CacheOk_eq {c : MCache} (h : c.sm) : s_CacheOk c = some (cacheP c) := s_CacheOk_l1_eq c.l [] h.2 rfl

theorem slices_IndexFunc_Entry_l0_eq {g : MEntry → Option Bool} {p : MEntry → Bool} : ∀ (l : List MEntry) (i : Nat), (∀ r, r ∈ l → g r = some (p r)) → slices_IndexFunc_Entry_l0 g l i = some (match l.findIdx? p with | some k => ((i + k : Nat) : Int) | none => -1)
  | [], i, _ => rfl
  | e :: l, i, h => by
    rw [slices_IndexFunc_Entry_l0, h e (.head _), bnd1_mk, slices_IndexFunc_Entry_l0_eq l (i + 1) (fun r hr => h r (.tail _ hr)), List.findIdx?_cons]
    cases p e with
    | true => rfl
    | false =>
      simp only [cond_false, Bool.false_eq_true, if_false]
      cases l.findIdx? p with
      | none => rfl
      | some k => simp only [Option.map_some]; congr 2; omega

def atP (p : MEntry → Bool) (l : List MEntry) : Int := match l.findIdx? p with | some k => (k : Int) | none => -1

theorem slices_IndexFunc_Entry_eq {g : MEntry → Option Bool} {p : MEntry → Bool} {l : List MEntry} (h : ∀ r, r ∈ l → g r = some (p r)) : slices_IndexFunc_Entry l g = some (atP p l) := by
  unfold slices_IndexFunc_Entry atP
  rw [slices_IndexFunc_Entry_l0_eq l 0 h]
  cases l.findIdx? p with
  | none => rfl
  | some k => simp

theorem atP_any (p : MEntry → Bool) (l : List MEntry) : decide (0 ≤ atP p l) = l.any p := by
  unfold atP
  cases h : l.findIdx? p with
  | none =>
    rw [List.findIdx?_eq_none_iff] at h
    have : l.any p = false := by rw [List.any_eq_false]; intro x hx; rw [h x hx]; simp
    rw [this]; rfl
  | some k =>
    obtain ⟨h1, h2, -⟩ := List.findIdx?_eq_some_iff_getElem.1 h
    rw [List.any_eq_true.2 ⟨_, List.getElem_mem h1, h2⟩]
    simp

theorem slices_ContainsFunc_Entry_eq {g : MEntry → Option Bool} {p : MEntry → Bool} {l : List MEntry} (h : ∀ r, r ∈ l → g r = some (p r)) : slices_ContainsFunc_Entry l g = some (l.any p) := by
  unfold slices_ContainsFunc_Entry; rw [slices_IndexFunc_Entry_eq h, bnd1_mk, atP_any]

theorem i_CacheOk_l1_eq {c : MCache} : ∀ (l pre : List MEntry), (∀ e, e ∈ l → e.sm) → c.l = pre ++ l → i_CacheOk_l1 c l pre.length = some (keysP pre l)
  | [], pre, _, _ => rfl
  | e :: l, pre, hs, hl => by
    have ih := i_CacheOk_l1_eq l (pre ++ [e]) (fun x hx => hs x (.tail _ hx)) (by rw [hl]; simp)
    rw [show (pre ++ [e]).length = pre.length + 1 by simp] at ih
    have e1 : (c.l.drop ((0 : Nat) : Int).toNat).take ((pre.length : Int).toNat - ((0 : Nat) : Int).toNat) = pre := by rw [hl]; simp
    rw [i_CacheOk_l1, i_EntryOk_eq (hs e (.head _)), bnd1_mk, e1, slices_ContainsFunc_Entry_eq (p := fun x => qEq x.q e.q) (fun r _ => by unfold i_CacheOk_1; rw [qEq_true]), bnd1_mk, grd_pos (by rw [hl]; simp; omega)]
    unfold i_CacheOk_j2 keysP
    rw [ih]
    cases entryP e <;> cases pre.any (fun x => qEq x.q e.q) <;> rfl

theorem i_CacheOk_eq {c : MCache} (h : c.sm) : i_CacheOk c = some (cacheP c) := by
  unfold i_CacheOk cacheP inP i_CacheOk_j0
  have := i_CacheOk_l1_eq c.l [] h.2 rfl
  rw [show ([] : List MEntry).length = 0 from rfl] at this
  rw [this]
  by_cases c1 : c.cap < 1
  · have c2 : ¬ (1 ≤ c.cap) := by omega
    simp [c1, c2]
  · have c2 : 1 ≤ c.cap := by omega
    by_cases c3 : 60 < c.cap
    · have c4 : ¬ (c.cap ≤ 60) := by omega
      simp [c1, c3, c4]
    · have c4 : c.cap ≤ 60 := by omega
      by_cases c5 : c.cap < (c.l.length : Int)
      · have c6 : ¬ ((c.l.length : Int) ≤ c.cap) := by omega
        simp [c1, c3, c5, c6]
      · have c6 : (c.l.length : Int) ≤ c.cap := by omega
        simp [c1, c2, c3, c4, c5, c6]

theorem law_CacheOk {c : MCache} (hc : c.ok) : w_FnExactCacheOk c = some true := by
  obtain ⟨v, h3, h4, h5⟩ := w_szCache_p hc (n := 1048576) (by omega)
  unfold w_FnExactCacheOk
  rw [h3]
  by_cases c' : v < 0
  · simp [c']
  · have h6 := h5 (by omega)
    simp [c', w_toCache_eq h6, s_CacheOk_eq h6, i_CacheOk_eq h6, w_eqCache_self]
end Go.Abs.M
