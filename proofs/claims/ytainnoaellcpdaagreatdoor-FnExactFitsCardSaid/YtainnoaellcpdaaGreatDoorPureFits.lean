/- The pure law of Fits: its pure function answers true. -/
import Derived.Test.YtainnoaellcpdaaGreatDoorFnsFits
set_option linter.unusedSimpArgs false
set_option linter.unusedVariables false
namespace Go.Abs.M
open Go Go.Abs
theorem idx_nat {α : Type} {l : List α} {n : Nat} : idx l (n : Int) = l[n]? := by simp [idx]

theorem w_toRecord_eq {r : Rec} : w_toRecord r = some r := rfl

theorem w_toRecordS_l0_eq : ∀ (t pre : List Rec) (z : List Rec), z.length = t.length → w_toRecordS_l0 t (pre ++ z) pre.length = some (pre ++ t)
  | [], pre, z, hz => by cases z with | nil => rfl | cons a b => simp at hz
  | r :: t, pre, z, hz => by
    cases z with
    | nil => simp at hz
    | cons a z =>
      rw [w_toRecordS_l0]
      have := w_toRecordS_l0_eq t (pre ++ [r]) z (by simpa using hz)
      simp only [w_toRecord_eq, bnd1_mk, idx_nat]
      simp [bnd1] at this ⊢
      simpa using this

theorem w_toRecordS_eq {l : List Rec} (h : l.length ≤ 1099511627776) : w_toRecordS l = some l := by
  unfold w_toRecordS
  rw [grd_pos (by omega)]
  have := w_toRecordS_l0_eq l [] (List.replicate l.length ⟨⟨#[]⟩, 0, 0, 0, ⟨#[]⟩, ⟨#[]⟩⟩) (by simp)
  simpa using this

theorem w_eqRecord_self {a : Rec} : w_eqRecord a a = some true := by unfold w_eqRecord; simp

theorem w_eqRecordS_l0_self : ∀ (t pre : List Rec), w_eqRecordS_l0 (pre ++ t) t pre.length = some true
  | [], pre => rfl
  | r :: t, pre => by
    rw [w_eqRecordS_l0]
    have := w_eqRecordS_l0_self t (pre ++ [r])
    simp only [idx_nat]
    simp [w_eqRecord_self] at this ⊢
    exact this

theorem w_eqRecordS_self {l : List Rec} : w_eqRecordS l l = some true := by
  unfold w_eqRecordS
  have := w_eqRecordS_l0_self l []
  simpa using this

theorem w_toQuest_eq {q : Quest} : w_toQuest q = some q := rfl

theorem w_eqQuest_self {q : Quest} : w_eqQuest q q = some true := by unfold w_eqQuest; simp

theorem w_eqMsg_self {m : MMsg} : w_eqMsg m m = some true := by unfold w_eqMsg; simp [w_eqRecordS_self, w_eqQuest_self]

def Rec.sm (r : Rec) : Prop := r.name.size ≤ 1048576 ∧ r.host.size ≤ 1048576 ∧ r.text.size ≤ 1048576

def smL (l : List Rec) : Prop := l.length ≤ 1048576 ∧ ∀ r, r ∈ l → r.sm

def okL (l : List Rec) : Prop := l.length ≤ 9223372036854775807 ∧ ∀ r, r ∈ l → r.ok

theorem w_szRecord_p {r : Rec} {n : Int} (hr : r.ok) (hn : 0 ≤ n ∧ n ≤ 1048576) : ∃ v, w_szRecord r n = some v ∧ v ≤ n ∧ (0 ≤ v → r.sm) := by
  obtain ⟨h1, -, -, -, h2, h3⟩ := hr
  unfold w_szRecord Rec.sm
  rw [grd_pos (by simp only [i64]; omega)]
  by_cases c1 : n - (r.name.size : Int) < 0
  · exact ⟨-1, by simp [c1], by omega, by omega⟩
  · simp only [c1, decide_false, cond_false]
    rw [grd_pos (by simp only [i64]; omega)]
    by_cases c2 : n - (r.name.size : Int) - (r.host.size : Int) < 0
    · exact ⟨-1, by simp [c2], by omega, by omega⟩
    · simp only [c2, decide_false, cond_false]
      rw [grd_pos (by simp only [i64]; omega)]
      by_cases c3 : n - (r.name.size : Int) - (r.host.size : Int) - (r.text.size : Int) < 0
      · exact ⟨-1, by simp [c3], by omega, by omega⟩
      · exact ⟨_, by simp only [c3, decide_false, cond_false]; rfl, by omega, by omega⟩

theorem w_szRecordS_l0_p : ∀ (l : List Rec) (n : Int) (i : Nat), (∀ r, r ∈ l → r.ok) → 0 ≤ n ∧ n ≤ 1048576 → ∃ v, w_szRecordS_l0 l n i = some v ∧ v ≤ n ∧ (0 ≤ v → ∀ r, r ∈ l → r.sm)
  | [], n, i, _, _ => ⟨n, rfl, Int.le_refl _, fun _ r hr => by cases hr⟩
  | r :: l, n, i, hr, hn => by
    obtain ⟨v, h1, h2, h2'⟩ := w_szRecord_p (hr r (.head _)) hn
    rw [w_szRecordS_l0, h1]
    by_cases c : v < 0
    · exact ⟨-1, by simp [c], by omega, by omega⟩
    · obtain ⟨w, h3, h4, h5⟩ := w_szRecordS_l0_p l v (i + 1) (fun q hq => hr q (.tail _ hq)) (by omega)
      exact ⟨w, by simp [c, h3], by omega, fun h q hq => by
        cases hq with
        | head => exact h2' (by omega)
        | tail _ hq => exact h5 h q hq⟩

theorem w_szRecordS_p {l : List Rec} {n : Int} (hl : okL l) (hn : 0 ≤ n ∧ n ≤ 1048576) : ∃ v, w_szRecordS l n = some v ∧ v ≤ n ∧ (0 ≤ v → smL l) := by
  obtain ⟨h0, hr⟩ := hl
  unfold w_szRecordS
  rw [grd_pos (by simp only [i64]; omega)]
  by_cases c : n - (l.length : Int) < 0
  · exact ⟨-1, by simp [c], by omega, by omega⟩
  · obtain ⟨v, h1, h2, h3⟩ := w_szRecordS_l0_p l (n - l.length) 0 hr (by omega)
    exact ⟨v, by simp [c, h1], by omega, fun h => ⟨by omega, h3 h⟩⟩

def Quest.sm (q : Quest) : Prop := q.name.size ≤ 1048576

theorem w_szQuest_p {q : Quest} {n : Int} (hq : q.ok) (hn : 0 ≤ n ∧ n ≤ 1048576) : ∃ v, w_szQuest q n = some v ∧ v ≤ n ∧ (0 ≤ v → q.sm) := by
  obtain ⟨h1, -⟩ := hq
  unfold w_szQuest Quest.sm
  rw [grd_pos (by simp only [i64]; omega)]
  by_cases c1 : n - (q.name.size : Int) < 0
  · exact ⟨-1, by simp [c1], by omega, by omega⟩
  · exact ⟨_, by simp only [c1, decide_false, cond_false]; rfl, by omega, by omega⟩

def MMsg.sm (m : MMsg) : Prop := m.q.sm ∧ smL m.an ∧ smL m.au ∧ smL m.ad

theorem w_szMsg_p {m : MMsg} {n : Int} (hm : m.ok) (hn : 0 ≤ n ∧ n ≤ 1048576) : ∃ v, w_szMsg m n = some v ∧ v ≤ n ∧ (0 ≤ v → m.sm) := by
  obtain ⟨-, -, h3, h4, h5, h6⟩ := hm
  unfold w_szMsg
  obtain ⟨a, a1, a2, a3⟩ := w_szQuest_p h3 hn
  by_cases c : a < 0
  · exact ⟨-1, by simp [a1, c], by omega, by omega⟩
  obtain ⟨b, b1, b2, b3⟩ := w_szRecordS_p h4 (n := a) (by omega)
  by_cases c' : b < 0
  · exact ⟨-1, by simp [a1, c, b1, c'], by omega, by omega⟩
  obtain ⟨d, d1, d2, d3⟩ := w_szRecordS_p h5 (n := b) (by omega)
  by_cases c2 : d < 0
  · exact ⟨-1, by simp [a1, c, b1, c', d1, c2], by omega, by omega⟩
  obtain ⟨e, e1, e2, e3⟩ := w_szRecordS_p h6 (n := d) (by omega)
  by_cases c3 : e < 0
  · exact ⟨-1, by simp [a1, c, b1, c', d1, c2, e1, c3], by omega, by omega⟩
  · exact ⟨e, by simp [a1, c, b1, c', d1, c2, e1, c3], by omega, fun _ => ⟨a3 (by omega), b3 (by omega), d3 (by omega), e3 (by omega)⟩⟩

theorem w_toMsg_eq {m : MMsg} (h : m.sm) : w_toMsg m = some m := by
  unfold w_toMsg; simp [w_toQuest_eq, w_toRecordS_eq (Nat.le_trans h.2.1.1 (by decide)), w_toRecordS_eq (Nat.le_trans h.2.2.1.1 (by decide)), w_toRecordS_eq (Nat.le_trans h.2.2.2.1 (by decide))]

def mkB (l : List UInt8) : ByteArray := ⟨l.toArray⟩

def bts (s : ByteArray) : List UInt8 := s.data.toList

theorem bts_mkB (l : List UInt8) : bts (mkB l) = l := rfl

theorem mkB_bts (s : ByteArray) : mkB (bts s) = s := rfl

theorem bts_len (s : ByteArray) : (bts s).length = s.size := rfl

theorem bts_inj {a b : ByteArray} : bts a = bts b ↔ a = b := ⟨fun h => by rw [← mkB_bts a, ← mkB_bts b, h], fun h => by rw [h]⟩

theorem bts_nil_iff (s : ByteArray) : s = ⟨#[]⟩ ↔ bts s = [] := ⟨fun h => by subst h; rfl, fun h => bts_inj.1 (by rw [h]; rfl)⟩

theorem bts_extract (s : ByteArray) (a b : Nat) : bts (s.extract a b) = ((bts s).drop a).take (b - a) := by
  unfold bts
  rw [ByteArray.data_extract, Array.toList_extract, List.extract_eq_take_drop]

theorem extract_mkB (s : ByteArray) (a b : Nat) : s.extract a b = mkB (((bts s).drop a).take (b - a)) := by
  rw [← mkB_bts (s.extract a b), bts_extract]

theorem sidx_nat {s : ByteArray} {n : Nat} {b : UInt8} (h : (bts s)[n]? = some b) : sidx s (n : Int) = some (b.toNat : Int) := by
  obtain ⟨h1, h2⟩ := List.getElem?_eq_some_iff.1 h
  have h3 : n < s.size := h1
  unfold sidx
  rw [dif_pos ⟨by omega, by simpa using h3⟩]
  subst h2
  rfl

/-- The parts of bytes between the dots. -/
def segs : List UInt8 → List UInt8 → List (List UInt8)
  | cur, [] => [cur]
  | cur, b :: l => if b = 46 then cur :: segs [] l else segs (cur ++ [b]) l

def labels (s : ByteArray) : List ByteArray := if bts s = [] then [] else (segs [] (bts s)).map mkB

theorem segs_len : ∀ (l cur : List UInt8), (segs cur l).length ≤ l.length + 1
  | [], cur => by simp [segs]
  | b :: l, cur => by
    unfold segs
    split
    · have := segs_len l []; simp; omega
    · have := segs_len l (cur ++ [b]); simp; omega

theorem labels_len (s : ByteArray) : (labels s).length ≤ s.size + 1 := by
  unfold labels
  split
  · simp
  · have := segs_len (bts s) []
    rw [bts_len] at this
    simpa using this

theorem u8_eq46 (b : UInt8) : ((b.toNat : Int) = 46) ↔ b = 46 := by
  constructor
  · intro h
    have : b.toNat = 46 := by omega
    exact UInt8.toNat_inj.1 this
  · intro h; subst h; rfl

/-- The loop of the reference's Labels: from the place i on, the part having begun at the place f. -/
theorem s_Labels_l0_eq (s : ByteArray) (hs : s.size ≤ 1048576) (hne : s ≠ ⟨#[]⟩) : ∀ (k : Nat) (i f fl : Nat) (out : List ByteArray), s.size - i = k → f ≤ i → i ≤ s.size → out.length ≤ f → k + 1 < fl →
    s_Labels_l0 s fl out (f : Int) (i : Int) = some (out ++ (segs (((bts s).drop f).take (i - f)) ((bts s).drop i)).map mkB)
  | 0, i, f, fl, out, hk, hfi, hi, ho, hfl => by
    obtain ⟨fl, rfl⟩ : ∃ q, fl = q + 1 := ⟨fl - 1, by omega⟩
    obtain ⟨fl, rfl⟩ : ∃ q, fl = q + 1 := ⟨fl - 1, by omega⟩
    have hie : i = s.size := by omega
    rw [s_Labels_l0]
    have e1 : (bts s).drop i = [] := List.drop_eq_nil_of_le (by rw [bts_len]; omega)
    rw [e1]
    simp only [segs, List.map_cons, List.map_nil]
    have c1 : decide ((i : Int) ≤ (s.size : Int)) = true := by simpa using hi
    have c2 : (!decide (s = (⟨#[]⟩ : ByteArray))) = true := by simpa using hne
    rw [c1, c2, cond_true, s_Labels_j1, cond_true]
    have c3 : decide ((i : Int) = (s.size : Int)) = true := by simp [hie]
    rw [c3, cond_true, s_Labels_j2, cond_true, grd_pos (by omega), grd_pos (by simp; omega), grd_pos (by simp only [i64]; omega), grd_pos (by simp only [i64]; omega), s_Labels_l0]
    have c4 : decide ((i : Int) + 1 ≤ (s.size : Int)) = false := by simp; omega
    rw [c4, cond_false, s_Labels_j1, cond_false, extract_mkB]
    simp
  | k + 1, i, f, fl, out, hk, hfi, hi, ho, hfl => by
    obtain ⟨fl, rfl⟩ : ∃ q, fl = q + 1 := ⟨fl - 1, by omega⟩
    have hlt : i < (bts s).length := by rw [bts_len]; omega
    rw [s_Labels_l0]
    have c1 : decide ((i : Int) ≤ (s.size : Int)) = true := by simpa using hi
    have c2 : (!decide (s = (⟨#[]⟩ : ByteArray))) = true := by simpa using hne
    rw [c1, c2, cond_true, s_Labels_j1, cond_true]
    have c3 : decide ((i : Int) = (s.size : Int)) = false := by simp; omega
    have hb : (bts s)[i]? = some (bts s)[i] := List.getElem?_eq_getElem hlt
    rw [c3, cond_false, sidx_nat hb, bnd1_mk, List.drop_eq_getElem_cons hlt, segs]
    have e2 : ((i : Int) + 1) = ((i + 1 : Nat) : Int) := by omega
    by_cases c : (bts s)[i] = 46
    · rw [if_pos c]
      have c5 : decide ((((bts s)[i]).toNat : Int) = 46) = true := by simpa using (u8_eq46 _).2 c
      rw [c5, s_Labels_j2, cond_true, grd_pos (by omega), grd_pos (by simp; omega), grd_pos (by simp only [i64]; omega), grd_pos (by simp only [i64]; omega), e2,
        s_Labels_l0_eq s hs hne k (i + 1) (i + 1) fl _ (by omega) (by omega) (by omega) (by simp; omega) (by omega), extract_mkB]
      simp
    · rw [if_neg c]
      have c5 : decide ((((bts s)[i]).toNat : Int) = 46) = false := by
        have := fun h => c ((u8_eq46 _).1 h)
        simpa using this
      rw [c5, s_Labels_j2, cond_false, grd_pos (by simp only [i64]; omega), e2, s_Labels_l0_eq s hs hne k (i + 1) f fl _ (by omega) (by omega) (by omega) ho (by omega)]
      have e3 : ((bts s).drop f).take (i + 1 - f) = ((bts s).drop f).take (i - f) ++ [(bts s)[i]] := by
        rw [show i + 1 - f = (i - f) + 1 by omega, List.take_add_one]
        congr 1
        rw [List.getElem?_drop, show f + (i - f) = i by omega, hb]
        rfl
      rw [e3]

theorem s_Labels_eq {s : ByteArray} (hs : s.size ≤ 1048576) : s_Labels s = some (labels s) := by
  unfold s_Labels
  by_cases hne : s = ⟨#[]⟩
  · subst hne
    have : fuel0 = 4611686018427387903 + 1 := rfl
    rw [this, s_Labels_l0]
    rfl
  · have h := s_Labels_l0_eq s hs hne s.size 0 0 fuel0 [] (by omega) (by omega) (by omega) (by simp) (by unfold fuel0; omega)
    have e : bts s ≠ [] := fun h => hne ((bts_nil_iff s).2 h)
    simpa [labels, e] using h

theorem indexByte_none : ∀ {l : List UInt8}, Lib.indexByte l 46 = -1 → ∀ cur, segs cur l = [cur ++ l]
  | [], _, cur => by simp [segs]
  | b :: l, h, cur => by
    unfold Lib.indexByte at h
    by_cases c : b = 46
    · subst c; simp at h
    · have hb : (b == (46 : UInt8)) = false := by simpa using c
      rw [hb] at h
      simp only [Bool.false_eq_true, if_false] at h
      by_cases c' : Lib.indexByte l 46 = -1
      · rw [segs, if_neg c, indexByte_none c']; simp
      · have h1 := Lib.indexByte_ge l 46
        rw [if_neg (by simpa using c')] at h
        omega

theorem indexByte_some : ∀ {l : List UInt8} {k : Nat}, Lib.indexByte l 46 = (k : Int) → k < l.length ∧ ∀ cur, segs cur l = (cur ++ l.take k) :: segs [] (l.drop (k + 1))
  | [], k, h => by simp [Lib.indexByte] at h
  | b :: l, k, h => by
    unfold Lib.indexByte at h
    by_cases c : b = 46
    · subst c
      simp at h
      have : k = 0 := by omega
      subst this
      exact ⟨by simp, fun cur => by simp [segs]⟩
    · have hb : (b == (46 : UInt8)) = false := by simpa using c
      rw [hb] at h
      simp only [Bool.false_eq_true, if_false] at h
      have h1 := Lib.indexByte_ge l 46
      by_cases c' : Lib.indexByte l 46 = -1
      · rw [if_pos (by simpa using c')] at h; omega
      · rw [if_neg (by simpa using c')] at h
        obtain ⟨q, rfl⟩ : ∃ q, k = q + 1 := ⟨k - 1, by omega⟩
        obtain ⟨h2, h3⟩ := indexByte_some (l := l) (k := q) (by omega)
        exact ⟨by simp; omega, fun cur => by rw [segs, if_neg c, h3]; simp⟩

theorem count_segs : ∀ (l cur : List UInt8), (segs cur l).length = Lib.countByte l 46 + 1
  | [], cur => by simp [segs, Lib.countByte]
  | b :: l, cur => by
    unfold segs
    by_cases c : b = 46
    · subst c; rw [if_pos rfl, List.length_cons, count_segs l []]; simp [Lib.countByte]
    · rw [if_neg c, count_segs l]; simp [Lib.countByte, c]

theorem dotB : (⟨#[46]⟩ : ByteArray).size = 1 := rfl

theorem dot_sidx : sidx (⟨#[46]⟩ : ByteArray) 0 = some 46 := rfl

theorem strings_Index_dot {s : ByteArray} : strings_Index s ⟨#[46]⟩ = some (if s = ⟨#[46]⟩ then 0 else Lib.indexByte (bts s) 46) := by
  unfold strings_Index internal_stringslite_Index
  rw [dotB]
  by_cases c : s = ⟨#[46]⟩
  · subst c; simp [internal_stringslite_Index_j0]
  · have c' : ¬ ((⟨#[46]⟩ : ByteArray) = s) := fun h => c h.symm
    simp [internal_stringslite_Index_j0, c, c', dotB, dot_sidx, internal_stringslite_IndexByte]
    rfl

theorem strings_Index_dot' {s : ByteArray} : strings_Index s ⟨#[46]⟩ = some (Lib.indexByte (bts s) 46) := by
  rw [strings_Index_dot]
  by_cases c : s = ⟨#[46]⟩
  · subst c; rfl
  · rw [if_neg c]

theorem segs_pos (cur l : List UInt8) : 1 ≤ (segs cur l).length := by rw [count_segs]; omega

theorem idx_cases (l : List UInt8) : Lib.indexByte l 46 = -1 ∨ ∃ k : Nat, Lib.indexByte l 46 = (k : Int) := by
  have h := Lib.indexByte_ge l 46
  rcases Int.lt_or_le (Lib.indexByte l 46) 0 with h1 | h1
  · exact .inl (by omega)
  · exact .inr ⟨(Lib.indexByte l 46).toNat, by omega⟩

theorem genSplit_j1_eq {r : ByteArray} {a : List ByteArray} {i : Nat} (hi : i < a.length) (ha : a.length ≤ 1099511627776) : strings_genSplit_j1 r a (i : Int) = some (a.take i ++ [r]) := by
  unfold strings_genSplit_j1
  rw [idx_nat, List.getElem?_eq_getElem hi, bnd1_mk, grd_pos (by simp only [i64]; omega), grd_pos (by omega)]
  congr 1
  have e : ((i : Int) + 1).toNat - ((0 : Nat) : Int).toNat = i + 1 := by omega
  have e2 : (0 + ((0 : Nat) : Int).toNat) = 0 := by omega
  rw [e, e2, List.drop_zero, Int.toNat_natCast, List.take_add_one, List.take_set_of_le (Nat.le_refl i), List.getElem?_set_self hi]
  rfl

theorem genSplit_l2_eq (p0 : ByteArray) (j : Int) (n : Nat) (hj : (if (p0.size : Int) + 1 < j then (p0.size : Int) + 1 else j) - 1 = (n : Int)) : ∀ (k i fl : Nat) (r : ByteArray) (a : List ByteArray), n - i = k → i ≤ n → k < fl → a.length = n + 1 → a.length ≤ 1099511627776 → (segs [] (bts r)).length = n + 1 - i → r.size ≤ 1048576 →
    strings_genSplit_l2 p0 ⟨#[46]⟩ 0 j fl r a (i : Int) = some (a.take i ++ (segs [] (bts r)).map mkB)
  | 0, i, fl, r, a, hk, hi, hf, ha, ha', hs, hr => by
    obtain ⟨fl, rfl⟩ : ∃ q, fl = q + 1 := ⟨fl - 1, by omega⟩
    have hin : i = n := by omega
    rw [strings_genSplit_l2, hj]
    have c : decide ((i : Int) < (n : Int)) = false := by simp; omega
    rw [c, cond_false, genSplit_j1_eq (by omega) ha']
    rcases idx_cases (bts r) with h | ⟨q, h⟩
    · rw [indexByte_none h]; rfl
    · have h1 := (indexByte_some h).2 []
      have h2 := segs_pos [] ((bts r).drop (q + 1))
      rw [h1] at hs
      simp only [List.length_cons] at hs
      omega
  | k + 1, i, fl, r, a, hk, hi, hf, ha, ha', hs, hr => by
    obtain ⟨fl, rfl⟩ : ∃ q, fl = q + 1 := ⟨fl - 1, by omega⟩
    rw [strings_genSplit_l2, hj]
    have c : decide ((i : Int) < (n : Int)) = true := by simp; omega
    rw [c, cond_true, strings_Index_dot', bnd1_mk]
    rcases idx_cases (bts r) with h | ⟨q, h⟩
    · rw [indexByte_none h] at hs
      simp at hs
      omega
    · obtain ⟨h1, h2⟩ := indexByte_some h
      have h2 := h2 []
      rw [bts_len] at h1
      have hi' : i < a.length := by omega
      rw [h, dotB]
      have c' : decide ((q : Int) < 0) = false := by simp
      have e1 : ((i : Int) + 1) = ((i + 1 : Nat) : Int) := by omega
      rw [c', cond_false, grd_pos (by simp only [i64]; omega), grd_pos (by omega), idx_nat, List.getElem?_eq_getElem hi', bnd1_mk, grd_pos (by simp only [i64]; omega), grd_pos (by omega), grd_pos (by simp only [i64]; omega), e1]
      have e2 : bts (r.extract ((q : Int) + ((1 : Nat) : Int)).toNat (r.size : Int).toNat) = (bts r).drop (q + 1) := by
        rw [bts_extract]
        have e3 : ((q : Int) + ((1 : Nat) : Int)).toNat = q + 1 := by omega
        rw [e3, List.take_of_length_le (by rw [List.length_drop, bts_len]; omega)]
      rw [h2, List.length_cons] at hs
      rw [genSplit_l2_eq p0 j n hj k (i + 1) fl _ _ (by omega) (by omega) (by omega) (by simp [ha]) (by simp [ha']) (by rw [e2]; omega) (by rw [ByteArray.size_extract]; omega), e2, h2]
      congr 1
      rw [Int.toNat_natCast, List.take_add_one, List.take_set_of_le (Nat.le_refl i), List.getElem?_set_self hi', extract_mkB]
      have e4 : ((q : Int) + 0).toNat - ((0 : Nat) : Int).toNat = q := by omega
      rw [e4]
      simp

theorem strings_Count_dot {s : ByteArray} : strings_Count s ⟨#[46]⟩ = some ((Lib.countByte (bts s) 46 : Nat) : Int) := by
  unfold strings_Count
  have c1 : decide (((⟨#[46]⟩ : ByteArray).size : Int) = 0) = false := by rw [dotB]; decide
  have c2 : decide (((⟨#[46]⟩ : ByteArray).size : Int) = 1) = true := by rw [dotB]; decide
  have h46 : (46 : Int).toNat.toUInt8 = 46 := by decide
  rw [c1, cond_false, c2, cond_true, dot_sidx, bnd1_mk, h46]
  rfl

theorem i_Labels_eq {s : ByteArray} (hs : s.size ≤ 1048576) : i_Labels s = some (labels s) := by
  unfold i_Labels
  by_cases hne : s = ⟨#[]⟩
  · subst hne
    have e : bts (⟨#[]⟩ : ByteArray) = [] := rfl
    simp [labels, e]
  · have e : bts s ≠ [] := fun h => hne ((bts_nil_iff s).2 h)
    have hne' : ¬ ((⟨#[46]⟩ : ByteArray) = ⟨#[]⟩) := by decide
    have hc := count_segs (bts s) []
    have hl := segs_len (bts s) []
    rw [bts_len] at hl
    have e0 := strings_Count_dot (s := s)
    have hjj : (if (s.size : Int) + 1 < ((Lib.countByte (bts s) 46 : Nat) : Int) + 1 then (s.size : Int) + 1 else ((Lib.countByte (bts s) 46 : Nat) : Int) + 1) = ((Lib.countByte (bts s) 46 : Nat) : Int) + 1 := by rw [if_neg (by omega)]
    have hloop := genSplit_l2_eq s (((Lib.countByte (bts s) 46 : Nat) : Int) + 1) (Lib.countByte (bts s) 46) (by rw [hjj]; omega) (Lib.countByte (bts s) 46) 0 fuel0 s (List.replicate (((Lib.countByte (bts s) 46 : Nat) : Int) + 1).toNat ⟨#[]⟩) (by omega) (by omega) (by unfold fuel0; omega) (by simp) (by simp; omega) (by omega) hs
    have g0 : decide ((-1 : Int) = 0) = false := by decide
    have g1 : decide ((⟨#[46]⟩ : ByteArray) = ⟨#[]⟩) = false := decide_eq_false hne'
    have g2 : decide ((-1 : Int) < 0) = true := by decide
    rw [decide_eq_false hne, cond_false, strings_Split, strings_genSplit, g0, g1, g2, cond_false, cond_false, cond_true, e0, bnd1_mk, grd_pos (by simp only [i64]; omega), strings_genSplit_j0, hjj, grd_pos (by simp only [i64]; omega), grd_pos (by omega), grd_pos (by simp only [i64]; omega)]
    rw [Int.natCast_zero] at hloop
    rw [hloop, bnd1_mk, bnd1_mk]
    unfold labels
    rw [if_neg e, List.take_zero, List.nil_append]

theorem slices_IndexFunc_Record_l0_eq {g : Rec → Option Bool} {p : Rec → Bool} : ∀ (l : List Rec) (i : Nat), (∀ r, r ∈ l → g r = some (p r)) → ∃ v, slices_IndexFunc_Record_l0 g l i = some v ∧ decide (0 ≤ v) = l.any p
  | [], i, _ => ⟨-1, rfl, rfl⟩
  | r :: l, i, h => by
    rw [slices_IndexFunc_Record_l0, h r (.head _), bnd1_mk]
    cases c : p r with
    | true => exact ⟨i, rfl, by simp [c]⟩
    | false =>
      obtain ⟨v, h1, h2⟩ := slices_IndexFunc_Record_l0_eq l (i + 1) fun q hq => h q (.tail _ hq)
      exact ⟨v, h1, by simp [c, h2]⟩

theorem slices_ContainsFunc_Record_eq {g : Rec → Option Bool} {p : Rec → Bool} {l : List Rec} (h : ∀ r, r ∈ l → g r = some (p r)) : slices_ContainsFunc_Record l g = some (l.any p) := by
  obtain ⟨v, h1, h2⟩ := slices_IndexFunc_Record_l0_eq l 0 h
  unfold slices_ContainsFunc_Record slices_IndexFunc_Record
  rw [h1, bnd1_mk, h2]

theorem set_app {α : Type} (pre t : List α) (x y : α) : (pre ++ x :: t).set pre.length y = pre ++ y :: t := by simp

theorem get_app {α : Type} (pre t : List α) (x : α) : (pre ++ x :: t)[pre.length]? = some x := by simp

theorem segs_mem : ∀ (l cur x : List UInt8), x ∈ segs cur l → x.length ≤ cur.length + l.length
  | [], cur, x, h => by
    unfold segs at h
    rw [List.mem_singleton] at h
    subst h; simp
  | b :: l, cur, x, h => by
    unfold segs at h
    split at h
    · rcases List.mem_cons.1 h with h | h
      · subst h; simp
      · have := segs_mem l [] x h
        simp at this ⊢; omega
    · have := segs_mem l (cur ++ [b]) x h
      simp at this ⊢; omega

theorem labels_mem {s x : ByteArray} (h : x ∈ labels s) : x.size ≤ s.size := by
  unfold labels at h
  split at h
  · cases h
  · obtain ⟨y, hy, e⟩ := List.mem_map.1 h
    have h1 := segs_mem _ _ _ hy
    subst e
    rw [← bts_len, bts_mkB, ← bts_len s]
    simpa using h1

def chP (n : Int) : Bool := (decide (97 ≤ n) && decide (n ≤ 122)) || ((decide (48 ≤ n) && decide (n ≤ 57)) || (decide (n = 45) || decide (n = 95)))

def labelP (s : ByteArray) : Bool := ((bts s).all fun b => chP b.toNat) && (decide (1 ≤ (s.size : Int)) && decide ((s.size : Int) ≤ 12))

theorem s_l1In_eq {a b c : Int} : s_l1In a b c = some (decide (b ≤ a) && decide (a ≤ c)) := by
  unfold s_l1In; cases decide (b ≤ a) <;> rfl

theorem s_l2Byte_eq {b : UInt8} : s_l2Byte (b.toNat : Int) = some (chP b.toNat) := by
  have h := b.toNat_lt
  unfold s_l2Byte chP
  rw [wrap_id (by omega), s_l1In_eq, bnd1_mk, s_l1In_eq, bnd1_mk]
  cases decide (97 ≤ (b.toNat : Int)) && decide ((b.toNat : Int) ≤ 122) <;> cases decide (48 ≤ (b.toNat : Int)) && decide ((b.toNat : Int) ≤ 57) <;> cases decide ((b.toNat : Int) = 45) <;> rfl

theorem drop_all {s : ByteArray} {i : Nat} {b : UInt8} {p : UInt8 → Bool} (h : (bts s)[i]? = some b) : ((bts s).drop i).all p = (p b && ((bts s).drop (i + 1)).all p) := by
  obtain ⟨h1, h2⟩ := List.getElem?_eq_some_iff.1 h
  rw [List.drop_eq_getElem_cons h1, List.all_cons, h2]

theorem bts_get {s : ByteArray} {i : Nat} (h : i < s.size) : ∃ b, (bts s)[i]? = some b := ⟨(bts s)[i]'h, List.getElem?_eq_getElem h⟩

theorem s_LabelOk_l1_eq {s : ByteArray} (hs : s.size ≤ 1048576) : ∀ (k i fl : Nat), s.size - i = k → i ≤ s.size → k < fl → s_LabelOk_l1 s fl (i : Int) = some (((bts s).drop i).all (fun b => chP b.toNat) && (decide (1 ≤ (s.size : Int)) && decide ((s.size : Int) ≤ 12)))
  | 0, i, fl, hk, hi, hf => by
    obtain ⟨fl, rfl⟩ : ∃ q, fl = q + 1 := ⟨fl - 1, by omega⟩
    have c : ¬ ((i : Int) < (s.size : Int)) := by omega
    have e : (bts s).drop i = [] := List.drop_eq_nil_of_le (by rw [bts_len]; omega)
    rw [s_LabelOk_l1, decide_eq_false c, cond_false, e]
    unfold s_LabelOk_j0
    rw [s_l1In_eq]; rfl
  | k + 1, i, fl, hk, hi, hf => by
    obtain ⟨fl, rfl⟩ : ∃ q, fl = q + 1 := ⟨fl - 1, by omega⟩
    have c : (i : Int) < (s.size : Int) := by omega
    obtain ⟨b, hb⟩ := bts_get (s := s) (i := i) (by omega)
    have h := s_LabelOk_l1_eq hs k (i + 1) fl (by omega) (by omega) (by omega)
    rw [s_LabelOk_l1, decide_eq_true c, cond_true, sidx_nat hb, bnd1_mk, s_l2Byte_eq, bnd1_mk, grd_pos (by simp only [i64]; omega)]
    have e : ((i : Int) + 1) = ((i + 1 : Nat) : Int) := by omega
    rw [e, h, drop_all hb]
    cases chP b.toNat <;> rfl

theorem fuel_lt {k : Nat} (h : k ≤ 1048576) : k < fuel0 := by unfold fuel0; omega

theorem s_LabelOk_eq {s : ByteArray} (hs : s.size ≤ 1048576) : s_LabelOk s = some (labelP s) := by
  have h := s_LabelOk_l1_eq hs s.size 0 fuel0 (by omega) (by omega) (fuel_lt hs)
  unfold s_LabelOk
  exact h

theorem i_LabelOk_l1_eq {s : ByteArray} (hs : s.size ≤ 1048576) : ∀ (k i fl : Nat), s.size - i = k → i ≤ s.size → k < fl → i_LabelOk_l1 s fl (i : Int) = some (((bts s).drop i).all (fun b => chP b.toNat) && (decide (1 ≤ (s.size : Int)) && decide ((s.size : Int) ≤ 12)))
  | 0, i, fl, hk, hi, hf => by
    obtain ⟨fl, rfl⟩ : ∃ q, fl = q + 1 := ⟨fl - 1, by omega⟩
    have c : ¬ ((i : Int) < (s.size : Int)) := by omega
    have e : (bts s).drop i = [] := List.drop_eq_nil_of_le (by rw [bts_len]; omega)
    rw [i_LabelOk_l1, decide_eq_false c, cond_false, e]
    unfold i_LabelOk_j0
    cases decide (1 ≤ (s.size : Int)) <;> rfl
  | k + 1, i, fl, hk, hi, hf => by
    obtain ⟨fl, rfl⟩ : ∃ q, fl = q + 1 := ⟨fl - 1, by omega⟩
    have c : (i : Int) < (s.size : Int) := by omega
    obtain ⟨b, hb⟩ := bts_get (s := s) (i := i) (by omega)
    have h := i_LabelOk_l1_eq hs k (i + 1) fl (by omega) (by omega) (by omega)
    rw [i_LabelOk_l1, decide_eq_true c, cond_true, sidx_nat hb, bnd1_mk]
    have e : ((i : Int) + 1) = ((i + 1 : Nat) : Int) := by omega
    have hj : ∀ y : Bool, i_LabelOk_j2 (i : Int) (i_LabelOk_l1 s fl) y = some (!y && (((bts s).drop (i + 1)).all (fun b => chP b.toNat) && (decide (1 ≤ (s.size : Int)) && decide ((s.size : Int) ≤ 12)))) := by
      intro y
      unfold i_LabelOk_j2
      rw [grd_pos (by simp only [i64]; omega), e, h]
      cases y <;> rfl
    simp only [hj]
    rw [drop_all hb]
    have hc : chP b.toNat = !(((decide ((b.toNat : Int) < 97)) || decide (122 < (b.toNat : Int))) && ((decide ((b.toNat : Int) < 48) || decide (57 < (b.toNat : Int))) && ((!decide ((b.toNat : Int) = 45)) && !decide ((b.toNat : Int) = 95)))) := by
      have e1 : decide (97 ≤ (b.toNat : Int)) = !decide ((b.toNat : Int) < 97) := by by_cases c : (b.toNat : Int) < 97 <;> simp [c] <;> omega
      have e2 : decide ((b.toNat : Int) ≤ 122) = !decide (122 < (b.toNat : Int)) := by by_cases c : 122 < (b.toNat : Int) <;> simp [c] <;> omega
      have e3 : decide (48 ≤ (b.toNat : Int)) = !decide ((b.toNat : Int) < 48) := by by_cases c : (b.toNat : Int) < 48 <;> simp [c] <;> omega
      have e4 : decide ((b.toNat : Int) ≤ 57) = !decide (57 < (b.toNat : Int)) := by by_cases c : 57 < (b.toNat : Int) <;> simp [c] <;> omega
      unfold chP
      rw [e1, e2, e3, e4]
      cases decide ((b.toNat : Int) < 97) <;> cases decide (122 < (b.toNat : Int)) <;> cases decide ((b.toNat : Int) < 48) <;> cases decide (57 < (b.toNat : Int)) <;> cases decide ((b.toNat : Int) = 45) <;> cases decide ((b.toNat : Int) = 95) <;> rfl
    rw [hc]
    rw [Bool.and_assoc]
    generalize (((bts s).drop (i + 1)).all (fun b => chP b.toNat) && (decide (1 ≤ (s.size : Int)) && decide ((s.size : Int) ≤ 12))) = R
    cases decide ((b.toNat : Int) < 97) <;> cases decide (122 < (b.toNat : Int)) <;> cases decide ((b.toNat : Int) < 48) <;> cases decide (57 < (b.toNat : Int)) <;> cases decide ((b.toNat : Int) = 45) <;> cases decide ((b.toNat : Int) = 95) <;> rfl

theorem i_LabelOk_eq {s : ByteArray} (hs : s.size ≤ 1048576) : i_LabelOk s = some (labelP s) := by
  have h := i_LabelOk_l1_eq hs s.size 0 fuel0 (by omega) (by omega) (fuel_lt hs)
  unfold i_LabelOk
  exact h

def nameP (s : ByteArray) : Bool := (labels s).all labelP && (decide ((s.size : Int) ≤ 50) && decide (((labels s).length : Int) ≤ 6))

theorem s_NameOk_l1_eq {s : ByteArray} : ∀ (l : List ByteArray) (i : Nat), (∀ x, x ∈ l → x.size ≤ 1048576) → s_NameOk_l1 s (labels s) l i = some (l.all labelP && (decide ((s.size : Int) ≤ 50) && decide (((labels s).length : Int) ≤ 6)))
  | [], i, _ => by
    rw [s_NameOk_l1]; unfold s_NameOk_j0
    cases decide ((s.size : Int) ≤ 50) <;> rfl
  | x :: l, i, h => by
    rw [s_NameOk_l1, s_LabelOk_eq (h x (.head _)), bnd1_mk, s_NameOk_l1_eq l (i + 1) fun y hy => h y (.tail _ hy), List.all_cons]
    cases labelP x <;> rfl

theorem s_NameOk_eq {s : ByteArray} (hs : s.size ≤ 1048576) : s_NameOk s = some (nameP s) := by
  unfold s_NameOk
  rw [s_Labels_eq hs, bnd1_mk, s_NameOk_l1_eq _ _ fun x hx => Nat.le_trans (labels_mem hx) hs]; rfl

theorem slices_IndexFunc_string_l0_eq {g : ByteArray → Option Bool} {p : ByteArray → Bool} : ∀ (l : List ByteArray) (i : Nat), (∀ r, r ∈ l → g r = some (p r)) → ∃ v, slices_IndexFunc_string_l0 g l i = some v ∧ decide (0 ≤ v) = l.any p
  | [], i, _ => ⟨-1, rfl, rfl⟩
  | r :: l, i, h => by
    rw [slices_IndexFunc_string_l0, h r (.head _), bnd1_mk]
    cases c : p r with
    | true => exact ⟨i, rfl, by simp [c]⟩
    | false =>
      obtain ⟨v, h1, h2⟩ := slices_IndexFunc_string_l0_eq l (i + 1) fun q hq => h q (.tail _ hq)
      exact ⟨v, h1, by simp [c, h2]⟩

theorem slices_ContainsFunc_string_eq {g : ByteArray → Option Bool} {p : ByteArray → Bool} {l : List ByteArray} (h : ∀ r, r ∈ l → g r = some (p r)) : slices_ContainsFunc_string l g = some (l.any p) := by
  obtain ⟨v, h1, h2⟩ := slices_IndexFunc_string_l0_eq l 0 h
  unfold slices_ContainsFunc_string slices_IndexFunc_string
  rw [h1, bnd1_mk, h2]

theorem any_not_all {α : Type} (p : α → Bool) : ∀ l : List α, (!l.any fun x => !p x) = l.all p
  | [] => rfl
  | x :: l => by rw [List.any_cons, List.all_cons, ← any_not_all p l]; cases p x <;> simp

theorem i_NameOk_eq {s : ByteArray} (hs : s.size ≤ 1048576) : i_NameOk s = some (nameP s) := by
  unfold i_NameOk nameP
  rw [i_Labels_eq hs, bnd1_mk, slices_ContainsFunc_string_eq (p := fun x => !labelP x) fun r hr => by unfold i_NameOk_1; rw [i_LabelOk_eq (Nat.le_trans (labels_mem hr) hs)]; rfl, bnd1_mk, any_not_all]
  cases decide ((s.size : Int) ≤ 50) <;> cases decide (((labels s).length : Int) ≤ 6) <;> cases (labels s).all labelP <;> rfl

def typeP (k : Int) : Bool := decide (k = 1) || (decide (k = 2) || (decide (k = 5) || (decide (k = 6) || decide (k = 16))))

theorem s_TypeOk_eq {k : Int} : s_TypeOk k = some (typeP k) := by
  unfold s_TypeOk typeP
  cases decide (k = 1) <;> cases decide (k = 2) <;> cases decide (k = 5) <;> cases decide (k = 6) <;> rfl

theorem i_TypeOk_eq {k : Int} : i_TypeOk k = some (typeP k) := by
  have e : ∀ a : ByteArray, bnd1 (some a) (fun x1 => some (!decide (x1 = (⟨#[]⟩ : ByteArray)))) = some (!decide (a = (⟨#[]⟩ : ByteArray))) := fun _ => rfl
  unfold i_TypeOk i_TypeText typeP
  cases decide (k = 1) <;> cases decide (k = 2) <;> cases decide (k = 5) <;> cases decide (k = 6) <;> cases decide (k = 16) <;> rfl

def questP (q : Quest) : Bool := nameP q.name && typeP q.ty

theorem s_QuestOk_eq {q : Quest} (h : q.sm) : s_QuestOk q = some (questP q) := by
  unfold s_QuestOk questP
  rw [s_NameOk_eq h, bnd1_mk, s_TypeOk_eq]
  cases nameP q.name <;> rfl

theorem i_QuestOk_eq {q : Quest} (h : q.sm) : i_QuestOk q = some (questP q) := by
  unfold i_QuestOk questP
  rw [i_NameOk_eq h, bnd1_mk, i_TypeOk_eq]
  cases nameP q.name <;> rfl

theorem textTail {s : ByteArray} {i : Nat} (h : ¬ ((i : Int) < (s.size : Int))) : (bts s).drop i = [] := List.drop_eq_nil_of_le (by rw [bts_len]; omega)

def txP (n : Int) : Bool := decide (33 ≤ n) && decide (n ≤ 126)

def textP (s : ByteArray) : Bool := ((bts s).all fun b => txP b.toNat) && decide ((s.size : Int) ≤ 12)

theorem s_l5Text_l1_eq {s : ByteArray} (hs : s.size ≤ 1048576) : ∀ (k i fl : Nat), s.size - i = k → i ≤ s.size → k < fl → s_l5Text_l1 s fl (i : Int) = some (((bts s).drop i).all (fun b => txP b.toNat) && decide ((s.size : Int) ≤ 12))
  | 0, i, fl, hk, hi, hf => by
    obtain ⟨fl, rfl⟩ : ∃ q, fl = q + 1 := ⟨fl - 1, by omega⟩
    have c : ¬ ((i : Int) < (s.size : Int)) := by omega
    rw [s_l5Text_l1, decide_eq_false c, cond_false, textTail c]
    rfl
  | k + 1, i, fl, hk, hi, hf => by
    obtain ⟨fl, rfl⟩ : ∃ q, fl = q + 1 := ⟨fl - 1, by omega⟩
    have c : (i : Int) < (s.size : Int) := by omega
    obtain ⟨b, hb⟩ := bts_get (s := s) (i := i) (by omega)
    have hl := b.toNat_lt
    have h := s_l5Text_l1_eq hs k (i + 1) fl (by omega) (by omega) (by omega)
    have e : ((i : Int) + 1) = ((i + 1 : Nat) : Int) := by omega
    rw [s_l5Text_l1, decide_eq_true c, cond_true, sidx_nat hb, bnd1_mk, wrap_id (by omega), s_l1In_eq, bnd1_mk, grd_pos (by simp only [i64]; omega), e, h, drop_all hb, Bool.and_assoc]
    unfold txP
    cases decide (33 ≤ (b.toNat : Int)) && decide ((b.toNat : Int) ≤ 126) <;> rfl

theorem s_l5Text_eq {s : ByteArray} (hs : s.size ≤ 1048576) : s_l5Text s = some (textP s) := by
  have h := s_l5Text_l1_eq hs s.size 0 fuel0 (by omega) (by omega) (fuel_lt hs)
  unfold s_l5Text
  exact h

theorem i_isText_l1_eq {s : ByteArray} (hs : s.size ≤ 1048576) : ∀ (k i fl : Nat), s.size - i = k → i ≤ s.size → k < fl → i_isText_l1 s fl (i : Int) = some (((bts s).drop i).all (fun b => txP b.toNat) && decide ((s.size : Int) ≤ 12))
  | 0, i, fl, hk, hi, hf => by
    obtain ⟨fl, rfl⟩ : ∃ q, fl = q + 1 := ⟨fl - 1, by omega⟩
    have c : ¬ ((i : Int) < (s.size : Int)) := by omega
    rw [i_isText_l1, decide_eq_false c, cond_false, textTail c]
    rfl
  | k + 1, i, fl, hk, hi, hf => by
    obtain ⟨fl, rfl⟩ : ∃ q, fl = q + 1 := ⟨fl - 1, by omega⟩
    have c : (i : Int) < (s.size : Int) := by omega
    obtain ⟨b, hb⟩ := bts_get (s := s) (i := i) (by omega)
    have h := i_isText_l1_eq hs k (i + 1) fl (by omega) (by omega) (by omega)
    have e : ((i : Int) + 1) = ((i + 1 : Nat) : Int) := by omega
    have hj : ∀ y : Bool, i_isText_j2 (i : Int) (i_isText_l1 s fl) y = some (!y && (((bts s).drop (i + 1)).all (fun b => txP b.toNat) && decide ((s.size : Int) ≤ 12))) := by
      intro y
      unfold i_isText_j2
      rw [grd_pos (by simp only [i64]; omega), e, h]
      cases y <;> rfl
    rw [i_isText_l1, decide_eq_true c, cond_true, sidx_nat hb, bnd1_mk, bnd1_mk, hj, hj, drop_all hb, Bool.and_assoc]
    have e1 : decide (33 ≤ (b.toNat : Int)) = !decide ((b.toNat : Int) < 33) := by by_cases c : (b.toNat : Int) < 33 <;> simp [c] <;> omega
    have e2 : decide ((b.toNat : Int) ≤ 126) = !decide (126 < (b.toNat : Int)) := by by_cases c : 126 < (b.toNat : Int) <;> simp [c] <;> omega
    unfold txP
    rw [e1, e2]
    generalize (((bts s).drop (i + 1)).all (fun b => decide (33 ≤ (b.toNat : Int)) && decide ((b.toNat : Int) ≤ 126)) && decide ((s.size : Int) ≤ 12)) = R
    cases decide ((b.toNat : Int) < 33) <;> cases decide (126 < (b.toNat : Int)) <;> rfl

theorem i_isText_eq {s : ByteArray} (hs : s.size ≤ 1048576) : i_isText s = some (textP s) := by
  have h := i_isText_l1_eq hs s.size 0 fuel0 (by omega) (by omega) (fuel_lt hs)
  unfold i_isText
  exact h

def inP (a b c : Int) : Bool := decide (b ≤ a) && decide (a ≤ c)

theorem i_isTtl_eq {a : Int} : i_isTtl a = some (inP a 0 100000) := by
  unfold i_isTtl inP; cases decide (0 ≤ a) <;> rfl

theorem i_isFour_eq {a : Int} : i_isFour a = some (inP a 0 2147483647) := by
  unfold i_isFour inP; cases decide (0 ≤ a) <;> rfl

def nilP (s : ByteArray) : Bool := decide (s = (⟨#[]⟩ : ByteArray))

def recP (r : Rec) : Bool :=
  nameP r.name && (inP r.ttl 0 100000 && (bif decide (r.ty = 1) then inP r.n 0 2147483647 && (nilP r.host && nilP r.text) else (bif decide (r.ty = 2) || decide (r.ty = 5) then decide (r.n = 0) && (nameP r.host && nilP r.text)
    else (bif decide (r.ty = 6) then inP r.n 0 100000 && (nameP r.host && nilP r.text) else decide (r.ty = 16) && (decide (r.n = 0) && (nilP r.host && textP r.text))))))

theorem s_RecordOk_eq {r : Rec} (h : r.sm) : s_RecordOk r = some (recP r) := by
  obtain ⟨h1, h2, h3⟩ := h
  unfold s_RecordOk s_RecordOk_j0 s_RecordOk_j1 recP nilP
  rw [s_NameOk_eq h1, bnd1_mk, s_l1In_eq, bnd1_mk, s_l1In_eq, bnd1_mk, s_l1In_eq, bnd1_mk, s_NameOk_eq h2, bnd1_mk, s_l5Text_eq h3, bnd1_mk]
  unfold inP
  generalize (decide (0 ≤ r.ttl) && decide (r.ttl ≤ 100000)) = a
  generalize (decide (0 ≤ r.n) && decide (r.n ≤ 2147483647)) = b
  generalize (decide (0 ≤ r.n) && decide (r.n ≤ 100000)) = d
  cases nameP r.name <;> cases a <;> cases decide (r.ty = 1) <;> cases decide (r.ty = 2) <;> cases decide (r.ty = 5) <;> cases decide (r.ty = 6) <;> cases decide (r.ty = 16) <;> try rfl
  all_goals (cases b <;> cases d <;> cases decide (r.n = 0) <;> cases nameP r.host <;> cases decide (r.host = (⟨#[]⟩ : ByteArray)) <;> rfl)

theorem i_RecordOk_eq {r : Rec} (h : r.sm) : i_RecordOk r = some (recP r) := by
  obtain ⟨h1, h2, h3⟩ := h
  unfold i_RecordOk i_RecordOk_j0 i_RecordOk_j1 recP nilP
  rw [i_NameOk_eq h1, bnd1_mk, i_isTtl_eq, bnd1_mk, i_isFour_eq, bnd1_mk, i_isTtl_eq, bnd1_mk, i_NameOk_eq h2, bnd1_mk, i_isText_eq h3, bnd1_mk]
  generalize inP r.ttl 0 100000 = a
  generalize inP r.n 0 2147483647 = b
  generalize inP r.n 0 100000 = d
  cases nameP r.name <;> cases a <;> cases decide (r.ty = 1) <;> cases decide (r.ty = 2) <;> cases decide (r.ty = 5) <;> cases decide (r.ty = 6) <;> cases decide (r.ty = 16) <;> try rfl
  all_goals (cases b <;> cases d <;> cases decide (r.n = 0) <;> cases nameP r.host <;> cases decide (r.host = (⟨#[]⟩ : ByteArray)) <;> rfl)

def listP (k : Int) (l : List Rec) : Bool := l.all recP && decide ((l.length : Int) ≤ k)

theorem s_l7List_l1_eq {w : List Rec} : ∀ (l : List Rec) (i : Nat), (∀ r, r ∈ l → r.sm) → s_l7List_l1 w l i = some (l.all recP && decide ((w.length : Int) ≤ 8))
  | [], i, _ => rfl
  | r :: l, i, h => by
    rw [s_l7List_l1, s_RecordOk_eq (h r (.head _)), bnd1_mk, s_l7List_l1_eq l (i + 1) fun q hq => h q (.tail _ hq), List.all_cons]
    cases recP r <;> rfl

theorem s_l7List_eq {l : List Rec} (h : smL l) : s_l7List l = some (listP 8 l) := s_l7List_l1_eq l 0 h.2

theorem i_allOk_eq {l : List Rec} {k : Int} (h : smL l) : i_allOk l k = some (listP k l) := by
  unfold i_allOk listP
  rw [slices_ContainsFunc_Record_eq (p := fun r => !recP r) fun r hr => by unfold i_allOk_1; rw [i_RecordOk_eq (h.2 r hr)]; rfl, bnd1_mk, any_not_all]
  cases decide ((l.length : Int) ≤ k) <;> cases l.all recP <;> rfl

def key (r : Rec) : Quest := ⟨r.name, r.ty⟩

def foldC (x : Int) : Int := if 65 ≤ x ∧ x ≤ 90 then x + 32 else x

theorem wrap8 {x : Int} (h : 0 ≤ x ∧ x < 256) : IntKind.u8.wrap x = x := by
  simp [IntKind.wrap, IntKind.signed, IntKind.bits]; omega

theorem s_Fold_l1_eq : ∀ (t pre : List Int) (fl : Nat), t.length < fl → pre.length + t.length ≤ 1099511627776 → (∀ x, x ∈ t → 0 ≤ x ∧ x < 256) → s_Fold_l1 fl (pre ++ t) (pre.length : Int) = some (strOfNums (pre ++ t.map foldC))
  | [], pre, fl, hf, hl, _ => by
    obtain ⟨fl, rfl⟩ : ∃ q, fl = q + 1 := ⟨fl - 1, by simp at hf; omega⟩
    have c : ¬ ((pre.length : Int) < ((pre ++ ([] : List Int)).length : Int)) := by simp
    rw [s_Fold_l1, decide_eq_false c, cond_false]
    rfl
  | x :: t, pre, fl, hf, hl, hx => by
    simp only [List.length_cons] at hf hl
    obtain ⟨fl, rfl⟩ : ∃ q, fl = q + 1 := ⟨fl - 1, by omega⟩
    have c : (pre.length : Int) < ((pre ++ x :: t).length : Int) := by simp; omega
    have hb := hx x (.head _)
    have h := s_Fold_l1_eq t (pre ++ [foldC x]) fl (by omega) (by simp; omega) (fun y hy => hx y (.tail _ hy))
    have e : (pre.length : Int) + 1 = ((pre ++ [foldC x]).length : Int) := by simp
    rw [s_Fold_l1, decide_eq_true c, cond_true, idx_nat, get_app, bnd1_mk, wrap_id (by omega), s_l1In_eq, bnd1_mk, grd_pos (by simp only [i64]; omega), grd_pos (by simp only [i64]; omega), e, Int.toNat_natCast, set_app]
    simp only [List.append_assoc, List.singleton_append] at h
    rw [List.map_cons]
    by_cases d : 65 ≤ x ∧ x ≤ 90
    · have f : foldC x = x + 32 := if_pos d
      rw [decide_eq_true d.1, decide_eq_true d.2, Bool.and_self, cond_true, wrap8 (by omega), ← f, h]
    · have f : foldC x = x := if_neg d
      have d2 : (decide (65 ≤ x) && decide (x ≤ 90)) = false := by
        by_cases d1 : 65 ≤ x
        · have d3 : ¬ (x ≤ 90) := fun q => d ⟨d1, q⟩
          simp [d3]
        · simp [d1]
      rw [f] at h
      rw [d2, cond_false, f, h]

theorem i_Fold_l1_eq : ∀ (t pre : List Int), (∀ x, x ∈ t → 0 ≤ x ∧ x < 256) → i_Fold_l1 t (pre ++ t) pre.length = some (strOfNums (pre ++ t.map foldC))
  | [], pre, _ => by rw [i_Fold_l1]; rfl
  | x :: t, pre, hx => by
    have hb := hx x (.head _)
    have h := i_Fold_l1_eq t (pre ++ [foldC x]) (fun y hy => hx y (.tail _ hy))
    simp only [List.append_assoc, List.singleton_append, List.length_append, List.length_singleton] at h
    rw [i_Fold_l1, idx_nat, get_app, bnd1_mk, List.map_cons]
    unfold i_Fold_j2
    rw [Int.toNat_natCast, set_app]
    by_cases d1 : 65 ≤ x
    · rw [decide_eq_true d1, cond_true]
      by_cases d2 : x ≤ 90
      · have f : foldC x = x + 32 := if_pos ⟨d1, d2⟩
        have w : IntKind.u8.wrap (IntKind.u8.wrap (x + 97) - 65) = foldC x := by rw [f, wrap8 (x := x + 97) (by omega), wrap8 (by omega)]; omega
        rw [decide_eq_true d2, cond_true, w, h]
      · have f : foldC x = x := if_neg fun q => d2 q.2
        rw [f] at h
        rw [decide_eq_false d2, cond_false, f, h]
    · have f : foldC x = x := if_neg fun q => d1 q.1
      rw [f] at h
      rw [decide_eq_false d1, cond_false, cond_false, f, h]

theorem bytesOf_rng {s : ByteArray} {x : Int} (h : x ∈ bytesOf s) : 0 ≤ x ∧ x < 256 := by
  unfold bytesOf at h
  obtain ⟨b, -, e⟩ := List.mem_map.1 h
  have := b.toNat_lt
  omega

def fold (s : ByteArray) : ByteArray := strOfNums ((bytesOf s).map foldC)

theorem s_Fold_eq {s : ByteArray} (h : s.size ≤ 1048576) : s_Fold s = some (fold s) := by
  unfold s_Fold fold
  rw [grd_pos (by omega)]
  have := s_Fold_l1_eq (bytesOf s) [] fuel0 (fuel_lt (by rw [bytesOf_len]; exact h)) (by rw [bytesOf_len]; simp; omega) (fun x hx => bytesOf_rng hx)
  exact this

theorem i_Fold_eq {s : ByteArray} (h : s.size ≤ 1048576) : i_Fold s = some (fold s) := by
  unfold i_Fold fold
  rw [grd_pos (by omega)]
  exact i_Fold_l1_eq (bytesOf s) [] (fun x hx => bytesOf_rng hx)

theorem strOfNums_size (l : List Int) : (strOfNums l).size = l.length := by
  unfold strOfNums
  rw [← bts_len]
  unfold bts
  simp

def getLabel (b : List Int) (i : Int) : ByteArray × Int × Bool :=
  if 0 ≤ i ∧ i < (b.length : Int) then
    (match b[i.toNat]? with
    | none => (⟨#[]⟩, 0, false)
    | some n => if 12 < n ∨ (b.length : Int) - i ≤ n then (⟨#[]⟩, 0, false)
      else (bif labelP (fold (strOfNums ((b.drop (i + 1).toNat).take n.toNat))) then (fold (strOfNums ((b.drop (i + 1).toNat).take n.toNat)), i + 1 + n, true) else (⟨#[]⟩, 0, false)))
  else (⟨#[]⟩, 0, false)

theorem labelP_nil : labelP (fold (strOfNums [])) = false := by decide

theorem s_GetLabel_eq {b : List Int} {i : Int} (hb : ∀ x, x ∈ b → 0 ≤ x ∧ x < 256) (hl : b.length ≤ 1048576) (hi : i64 i) : s_GetLabel b i = some (getLabel b i) := by
  simp only [i64] at hi
  unfold s_GetLabel s_GetLabel_j0 getLabel
  by_cases c1 : i < 0
  · rw [decide_eq_true c1, cond_true, cond_true, if_neg (by omega)]
  rw [decide_eq_false c1, cond_false]
  by_cases c2 : (b.length : Int) ≤ i
  · rw [decide_eq_true c2, cond_true, if_neg (by omega)]
  rw [decide_eq_false c2, cond_false, if_pos (by omega)]
  have hlt : i.toNat < b.length := by omega
  have e1 : idx b i = some b[i.toNat] := by unfold idx; rw [if_pos (by omega), List.getElem?_eq_getElem hlt]
  have hx := hb _ (List.getElem_mem hlt)
  rw [e1, bnd1_mk, List.getElem?_eq_getElem hlt]
  generalize b[i.toNat] = n at hx
  unfold s_GetLabel_j1
  rw [wrap_id (by omega), s_l1In_eq, bnd1_mk]
  simp only
  by_cases c3 : 1 ≤ n ∧ n ≤ 12
  · rw [decide_eq_true c3.1, decide_eq_true c3.2]
    rw [show (!(true && true)) = false from rfl, cond_false, grd_pos (by simp only [i64]; omega), grd_pos (by simp only [i64]; omega)]
    by_cases c4 : (b.length : Int) - i - 1 < n
    · rw [decide_eq_true c4, cond_true, if_pos (.inr (by omega))]
    · have e2 : (i + 1 + n).toNat - (i + 1).toNat = n.toNat := by omega
      rw [decide_eq_false c4, cond_false, if_neg (by omega), grd_pos (by simp only [i64]; omega), grd_pos (by simp only [i64]; omega), grd_pos (by simp only [i64]; omega), grd_pos (by omega), e2]
      have hs : (strOfNums ((b.drop (i + 1).toNat).take n.toNat)).size ≤ 1048576 := by rw [strOfNums_size, List.length_take]; omega
      generalize strOfNums ((b.drop (i + 1).toNat).take n.toNat) = s at hs
      have hf : (fold s).size ≤ 1048576 := by unfold fold; rw [strOfNums_size, List.length_map, bytesOf_len]; exact hs
      rw [s_Fold_eq hs, bnd1_mk, s_LabelOk_eq hf, bnd1_mk]
      cases labelP (fold s)
      · rfl
      · rw [Bool.not_true, cond_false, cond_true, grd_pos (by simp only [i64]; omega), grd_pos (by simp only [i64]; omega)]
  · have d : (decide (1 ≤ n) && decide (n ≤ 12)) = false := by
      by_cases d1 : 1 ≤ n
      · have d3 : ¬ (n ≤ 12) := fun q => c3 ⟨d1, q⟩
        simp [d3]
      · simp [d1]
    rw [d, Bool.not_false, cond_true, cond_true]
    by_cases c5 : 12 < n ∨ (b.length : Int) - i ≤ n
    · rw [if_pos c5]
    · have n0 : n = 0 := by omega
      subst n0
      rw [if_neg c5]
      have e3 : ((b.drop (i + 1).toNat).take (0 : Int).toNat) = [] := by simp
      rw [e3, labelP_nil, cond_false]

theorem i_GetLabel_eq {b : List Int} {i : Int} (hb : ∀ x, x ∈ b → 0 ≤ x ∧ x < 256) (hl : b.length ≤ 1048576) (hi : i64 i) : i_GetLabel b i = some (getLabel b i) := by
  simp only [i64] at hi
  unfold i_GetLabel getLabel
  by_cases c1 : i < 0
  · rw [decide_eq_true c1, cond_true, if_neg (by omega)]; rfl
  rw [decide_eq_false c1, cond_false]
  by_cases c2 : (b.length : Int) ≤ i
  · rw [decide_eq_true c2, cond_true, if_neg (by omega)]; rfl
  rw [decide_eq_false c2, cond_false, if_pos (by omega)]
  have hlt : i.toNat < b.length := by omega
  have e1 : idx b i = some b[i.toNat] := by unfold idx; rw [if_pos (by omega), List.getElem?_eq_getElem hlt]
  have hx := hb _ (List.getElem_mem hlt)
  unfold i_GetLabel_j0
  rw [e1, bnd1_mk, bnd1_mk, List.getElem?_eq_getElem hlt]
  generalize b[i.toNat] = n at hx
  rw [wrap_id (by omega)]
  simp only
  by_cases c3 : 12 < n
  · rw [decide_eq_true c3, cond_true, cond_true, if_pos (.inl c3)]
  rw [decide_eq_false c3, cond_false, grd_pos (by simp only [i64]; omega)]
  by_cases c4 : (b.length : Int) - i ≤ n
  · rw [decide_eq_true c4, cond_true, if_pos (.inr c4)]
  have e2 : (i + 1 + n).toNat - (i + 1).toNat = n.toNat := by omega
  rw [decide_eq_false c4, cond_false, if_neg (by omega), grd_pos (by simp only [i64]; omega), grd_pos (by simp only [i64]; omega), grd_pos (by simp only [i64]; omega), grd_pos (by omega), e2]
  have hs : (strOfNums ((b.drop (i + 1).toNat).take n.toNat)).size ≤ 1048576 := by rw [strOfNums_size, List.length_take]; omega
  generalize strOfNums ((b.drop (i + 1).toNat).take n.toNat) = s at hs
  have hf : (fold s).size ≤ 1048576 := by unfold fold; rw [strOfNums_size, List.length_map, bytesOf_len]; exact hs
  rw [i_Fold_eq hs, bnd1_mk, i_LabelOk_eq hf, bnd1_mk]
  cases labelP (fold s) <;> rfl

def z1 (t : Int) (a : Bool) : List Rec := bif a then [Rec.mk (⟨#[99, 111, 109]⟩ : ByteArray) 6 t (IntKind.i64.wrap (Int.tdiv t 2)) (⟨#[]⟩ : ByteArray) (⟨#[]⟩ : ByteArray), Rec.mk (⟨#[99, 111, 109]⟩ : ByteArray) 2 t 0 (⟨#[110, 115, 46, 99, 111, 109]⟩ : ByteArray) (⟨#[]⟩ : ByteArray), Rec.mk (⟨#[110, 115, 46, 99, 111, 109]⟩ : ByteArray) 1 t 2 (⟨#[]⟩ : ByteArray) (⟨#[]⟩ : ByteArray)] ++ [Rec.mk (⟨#[101, 120, 46, 99, 111, 109]⟩ : ByteArray) 2 t 0 (⟨#[110, 115, 46, 101, 120, 46, 99, 111, 109]⟩ : ByteArray) (⟨#[]⟩ : ByteArray), Rec.mk (⟨#[110, 115, 46, 101, 120, 46, 99, 111, 109]⟩ : ByteArray) 1 t 3 (⟨#[]⟩ : ByteArray) (⟨#[]⟩ : ByteArray)]
  else [Rec.mk (⟨#[99, 111, 109]⟩ : ByteArray) 6 t (IntKind.i64.wrap (Int.tdiv t 2)) (⟨#[]⟩ : ByteArray) (⟨#[]⟩ : ByteArray), Rec.mk (⟨#[99, 111, 109]⟩ : ByteArray) 2 t 0 (⟨#[110, 115, 46, 99, 111, 109]⟩ : ByteArray) (⟨#[]⟩ : ByteArray), Rec.mk (⟨#[110, 115, 46, 99, 111, 109]⟩ : ByteArray) 1 t 2 (⟨#[]⟩ : ByteArray) (⟨#[]⟩ : ByteArray)]

def z2 (b : Bool) (l : List Rec) : List Rec := bif b then l ++ [Rec.mk (⟨#[119, 119, 119, 46, 99, 111, 109]⟩ : ByteArray) 5 9 0 (⟨#[97, 46, 111, 114, 103]⟩ : ByteArray) (⟨#[]⟩ : ByteArray)] else l

def z3 (c : Bool) (l : List Rec) : List Rec := bif c then l ++ [Rec.mk (⟨#[116, 46, 99, 111, 109]⟩ : ByteArray) 16 7 0 (⟨#[]⟩ : ByteArray) (⟨#[104, 105]⟩ : ByteArray), Rec.mk (⟨#[98, 46, 97, 46, 99, 111, 109]⟩ : ByteArray) 1 9 8 (⟨#[]⟩ : ByteArray) (⟨#[]⟩ : ByteArray)] else l

theorem ba_ext {a b : ByteArray} (h : a.data.toList = b.data.toList) : a = b := by
  cases a; cases b; simp only at h; congr 1; exact Array.toList_inj.1 h

theorem ba_app (a b : ByteArray) : (a ++ b).data.toList = a.data.toList ++ b.data.toList := by
  rw [ByteArray.data_append, Array.toList_append]

theorem joinB_list (l : List ByteArray) (s : ByteArray) : (joinB l s).data.toList = Lib.join (l.map fun x => x.data.toList) s.data.toList := by
  unfold joinB; simp

theorem joinB_nil (s : ByteArray) : joinB [] s = ⟨#[]⟩ := ba_ext (by rw [joinB_list]; rfl)

theorem joinB_one (p s : ByteArray) : joinB [p] s = p := ba_ext (by rw [joinB_list]; simp [Lib.join_one])

theorem joinB_snoc {l : List ByteArray} (p s : ByteArray) (h : l ≠ []) : joinB (l ++ [p]) s = (joinB l s ++ s) ++ p := by
  cases l with
  | nil => exact absurd rfl h
  | cons x t =>
    apply ba_ext
    rw [ba_app, ba_app, joinB_list, joinB_list]
    simp only [List.cons_append, List.map_cons, List.map_append, List.map_nil, Lib.join_cons, Lib.joinTail]
    simp [List.append_assoc]

theorem joinB_cons {l : List ByteArray} (p s : ByteArray) (h : l ≠ []) : joinB (p :: l) s = p ++ (s ++ joinB l s) := by
  cases l with
  | nil => exact absurd rfl h
  | cons x t =>
    apply ba_ext
    rw [ba_app, ba_app, joinB_list, joinB_list]
    simp only [List.map_cons, Lib.join_cons, Lib.joinTail]
    simp [List.append_assoc]

theorem join_segs : ∀ (l cur : List UInt8), Lib.join (segs cur l) [46] = cur ++ l
  | [], cur => by rw [segs, Lib.join_one, List.append_nil]
  | b :: l, cur => by
    rw [segs]
    split
    · rename_i h
      have h1 := join_segs l []
      have h2 := segs_pos [] l
      subst h
      cases hs : segs [] l with
      | nil => rw [hs] at h2; simp at h2
      | cons x t =>
        rw [hs, Lib.join_cons] at h1
        rw [Lib.join_cons, Lib.joinTail, List.map_cons, List.flatten_cons]
        have : Lib.joinTail [46] t = (t.map ([46] ++ ·)).flatten := rfl
        rw [← this, List.append_assoc, h1]; rfl
    · rw [join_segs l]; simp

theorem joinB_labels {s : ByteArray} (h : s ≠ ⟨#[]⟩) : joinB (labels s) ⟨#[46]⟩ = s := by
  have hn : bts s ≠ [] := fun e => h ((bts_nil_iff s).2 e)
  apply ba_ext
  rw [joinB_list]
  unfold labels
  rw [if_neg hn, List.map_map]
  have : (fun x : ByteArray => x.data.toList) ∘ mkB = id := by funext l; rfl
  rw [this, List.map_id]
  exact join_segs (bts s) []

theorem ishr_nat {a : Int} {k : Nat} (h : 0 ≤ a) (hk : k ≤ 64) : ishr .i64 a k = a / (2 ^ k : Int) := by
  unfold ishr
  rw [show min k (IntKind.i64).bits = k from Nat.min_eq_left hk, Int.fdiv_eq_ediv_of_nonneg _ (Int.pow_nonneg (by decide))]

theorem ofInt_nat (a : Nat) : BitVec.ofInt 64 (a : Int) = BitVec.ofNat 64 a := BitVec.ofInt_natCast 64 a

theorem iand_255n {a : Int} (h0 : 0 ≤ a) (h1 : a < 9223372036854775808) : iand .i64 a 255 = a % 256 := by
  obtain ⟨n, rfl⟩ : ∃ n : Nat, a = (n : Int) := ⟨a.toNat, by omega⟩
  unfold iand
  have e : (BitVec.ofInt (IntKind.i64).bits (n : Int) &&& BitVec.ofInt (IntKind.i64).bits 255).toNat = n % 256 := by
    show (BitVec.ofInt 64 (n : Int) &&& BitVec.ofInt 64 ((255 : Nat) : Int)).toNat = n % 256
    rw [ofInt_nat, ofInt_nat, BitVec.toNat_and, BitVec.toNat_ofNat, BitVec.toNat_ofNat, Nat.mod_eq_of_lt (a := n) (by omega), show 255 % 2 ^ 64 = 2 ^ 8 - 1 from by decide, Nat.and_two_pow_sub_one_eq_mod]
  rw [e, wrap_id (by omega)]
  omega

/-- How a name is read: the place, what is read, the place behind it, the bound of jumps, the number of jumps. -/
def walkF (b : List Int) : Nat → Int → ByteArray → Int → Int → Int → ByteArray × Int × Int × Int
  | 0, _, _, _, _, _ => (⟨#[]⟩, 0, 0, 0)
  | f + 1, at', s, nx, bg, j =>
    if at' < 0 ∨ (b.length : Int) ≤ at' then (⟨#[]⟩, 0, 1, j) else
    if b.getD at'.toNat 0 = 0 then (s, if nx < 0 then at' + 1 else nx, 0, j) else
    if 192 ≤ b.getD at'.toNat 0 then
      (if (b.length : Int) ≤ at' + 1 then (⟨#[]⟩, 0, 1, j) else
       if bg ≤ 256 * (b.getD at'.toNat 0 - 192) + b.getD (at' + 1).toNat 0 then (⟨#[]⟩, 0, 3, j) else
       walkF b f (256 * (b.getD at'.toNat 0 - 192) + b.getD (at' + 1).toNat 0) s (if nx < 0 then at' + 2 else nx) (256 * (b.getD at'.toNat 0 - 192) + b.getD (at' + 1).toNat 0) (j + 1)) else
    if 12 < b.getD at'.toNat 0 then (⟨#[]⟩, 0, 2, j) else
    if (b.length : Int) - at' ≤ b.getD at'.toNat 0 then (⟨#[]⟩, 0, 1, j) else
    if (getLabel b at').2.2 = false then (⟨#[]⟩, 0, 2, j) else
    if nameP (if s = ⟨#[]⟩ then (getLabel b at').1 else (s ++ ⟨#[46]⟩) ++ (getLabel b at').1) then walkF b f (getLabel b at').2.1 (if s = ⟨#[]⟩ then (getLabel b at').1 else (s ++ ⟨#[46]⟩) ++ (getLabel b at').1) nx bg j else (⟨#[]⟩, 0, 4, j)

theorem idx_gd {b : List Int} {i : Int} (h0 : 0 ≤ i) (h1 : i < (b.length : Int)) : idx b i = some (b.getD i.toNat 0) := by
  unfold idx
  rw [if_pos h0, List.getD_eq_getElem?_getD, List.getElem?_eq_getElem (by omega)]; rfl

theorem getD_rng {b : List Int} (hb : ∀ x, x ∈ b → 0 ≤ x ∧ x < 256) (n : Nat) : 0 ≤ b.getD n 0 ∧ b.getD n 0 < 256 := by
  rw [List.getD_eq_getElem?_getD]
  cases h : b[n]? with
  | none => simp
  | some x => exact hb x (List.mem_of_getElem? h)

theorem getLabel_ok {b : List Int} {i : Int} (hb : ∀ x, x ∈ b → 0 ≤ x ∧ x < 256) (h : (getLabel b i).2.2 = true) : labelP (getLabel b i).1 = true ∧ (getLabel b i).2.1 = i + 1 + b.getD i.toNat 0 ∧ 0 ≤ i ∧ i + 1 + b.getD i.toNat 0 ≤ (b.length : Int) := by
  unfold getLabel at h ⊢
  by_cases c : 0 ≤ i ∧ i < (b.length : Int)
  · rw [if_pos c] at h ⊢
    have e : b[i.toNat]? = some (b.getD i.toNat 0) := by
      rw [List.getD_eq_getElem?_getD, List.getElem?_eq_getElem (by omega)]; rfl
    have hr := getD_rng hb i.toNat
    rw [e] at h ⊢
    generalize b.getD i.toNat 0 = n at h hr
    simp only at h ⊢
    by_cases c2 : 12 < n ∨ (b.length : Int) - i ≤ n
    · rw [if_pos c2] at h; cases h
    · rw [if_neg c2] at h ⊢
      cases hl : labelP (fold (strOfNums ((b.drop (i + 1).toNat).take n.toNat))) with
      | true => rw [cond_true]; exact ⟨hl, rfl, c.1, by omega⟩
      | false => rw [hl, cond_false] at h; cases h
  · rw [if_neg c] at h; cases h

theorem labelP_size {s : ByteArray} (h : labelP s = true) : 1 ≤ s.size ∧ s.size ≤ 12 := by
  unfold labelP at h
  simp only [Bool.and_eq_true, decide_eq_true_eq] at h
  omega

theorem nameP_size {s : ByteArray} (h : nameP s = true) : s.size ≤ 50 := by
  unfold nameP at h
  simp only [Bool.and_eq_true, decide_eq_true_eq] at h
  omega

theorem size_app (a b : ByteArray) : (a ++ b).size = a.size + b.size := ByteArray.size_append

/-- What is put together is longer. -/
theorem putS_size {s p : ByteArray} : (if s = ⟨#[]⟩ then p else (s ++ ⟨#[46]⟩) ++ p).size ≥ s.size + p.size := by
  by_cases c : s = ⟨#[]⟩
  · rw [if_pos c, c]; show p.size ≥ 0 + p.size; omega
  · rw [if_neg c, size_app, size_app]; omega

theorem putS_le {s p : ByteArray} : (if s = ⟨#[]⟩ then p else (s ++ ⟨#[46]⟩) ++ p).size ≤ s.size + p.size + 1 := by
  by_cases c : s = ⟨#[]⟩
  · rw [if_pos c]; omega
  · rw [if_neg c, size_app, size_app]; show s.size + 1 + p.size ≤ _; omega

theorem s_walk_eq {b : List Int} (hb : ∀ x, x ∈ b → 0 ≤ x ∧ x < 256) (hl : b.length ≤ 1048576) : ∀ (fl m : Nat) (at' : Int) (s : ByteArray) (nx bg j : Int), m < fl → (at' < 0 ∨ (b.length : Int) ≤ at' ∨ bg.toNat + (60 - s.size) ≤ m) → s.size ≤ 50 → i64 at' → 0 ≤ j → j + m ≤ 100000000 →
    s_l4Walk_l0 b fl at' s nx bg j = some (walkF b fl at' s nx bg j)
  | 0, m, at', s, nx, bg, j, hm, _, _, _, _, _ => by omega
  | fl + 1, m, at', s, nx, bg, j, hm, hbg, hs, hi, hj, hjm => by
    rw [s_l4Walk_l0, walkF]
    simp only [i64] at hi
    by_cases c1 : at' < 0
    · rw [decide_eq_true c1, cond_true]
      unfold s_l4Walk_j1
      rw [cond_true, if_pos (.inl c1)]
    rw [decide_eq_false c1, cond_false]
    unfold s_l4Walk_j1
    by_cases c2 : (b.length : Int) ≤ at'
    · rw [decide_eq_true c2, cond_true, if_pos (.inr c2)]
    have hn := getD_rng hb at'.toNat
    have hy := getD_rng hb (at' + 1).toNat
    have hmm : bg.toNat + (60 - s.size) ≤ m := by omega
    rw [decide_eq_false c2, cond_false, if_neg (by omega), idx_gd (by omega) (by omega), bnd1_mk]
    have hg := @getLabel_ok b at' hb
    have hge := s_GetLabel_eq hb hl (i := at') (by simp only [i64]; omega)
    generalize hnn : b.getD at'.toNat 0 = n at hn hg ⊢
    rw [wrap_id (by omega)]
    by_cases c3 : n = 0
    · rw [decide_eq_true c3, cond_true, if_pos c3]
      by_cases c4 : nx < 0
      · rw [decide_eq_true c4, cond_true, grd_pos (by simp only [i64]; omega), if_pos c4]; rfl
      · rw [decide_eq_false c4, cond_false, if_neg c4]; rfl
    rw [decide_eq_false c3, cond_false, if_neg c3]
    by_cases c5 : 192 ≤ n
    · rw [decide_eq_true c5, cond_true, if_pos c5, grd_pos (by simp only [i64]; omega)]
      by_cases c6 : (b.length : Int) ≤ at' + 1
      · rw [decide_eq_true c6, cond_true, if_pos c6]
      rw [decide_eq_false c6, cond_false, if_neg c6, grd_pos (by simp only [i64]; omega), grd_pos (by simp only [i64]; omega), grd_pos (by simp only [i64]; omega), idx_gd (by omega) (by omega), bnd1_mk]
      generalize b.getD (at' + 1).toNat 0 = y at hy ⊢
      rw [wrap_id (by omega), grd_pos (by simp only [i64]; omega)]
      by_cases c7 : bg ≤ 256 * (n - 192) + y
      · rw [decide_eq_true c7, cond_true, if_pos c7]
      rw [decide_eq_false c7, cond_false, if_neg c7]
      have ih : ∀ nx', s_l4Walk_l0 b fl (256 * (n - 192) + y) s nx' (256 * (n - 192) + y) (j + 1) = some (walkF b fl (256 * (n - 192) + y) s nx' (256 * (n - 192) + y) (j + 1)) := fun nx' =>
        s_walk_eq hb hl fl (m - 1) _ _ _ _ _ (by omega) (.inr (.inr (by omega))) hs (by simp only [i64]; omega) (by omega) (by omega)
      unfold s_l4Walk_j3
      rw [wrap_id (by omega), wrap_id (by omega)]
      by_cases c8 : nx < 0
      · rw [decide_eq_true c8, cond_true, if_pos c8, grd_pos (by simp only [i64]; omega), grd_pos (by simp only [i64]; omega)]; exact ih _
      · rw [decide_eq_false c8, cond_false, if_neg c8, grd_pos (by simp only [i64]; omega)]; exact ih _
    rw [decide_eq_false c5, cond_false, if_neg c5]
    have hkey : s_l4Walk_j4 b at' s nx bg j (s_l4Walk_l0 b fl) false = some (if (getLabel b at').2.2 = false then (⟨#[]⟩, 0, 2, j) else
        if nameP (if s = ⟨#[]⟩ then (getLabel b at').1 else (s ++ ⟨#[46]⟩) ++ (getLabel b at').1) then walkF b fl (getLabel b at').2.1 (if s = ⟨#[]⟩ then (getLabel b at').1 else (s ++ ⟨#[46]⟩) ++ (getLabel b at').1) nx bg j else (⟨#[]⟩, 0, 4, j)) := by
      unfold s_l4Walk_j4
      rw [cond_false, hge]
      generalize getLabel b at' = g at hg
      obtain ⟨p, to, ok⟩ := g
      rw [bnd3_mk]
      cases ok with
      | false => rfl
      | true =>
        obtain ⟨g1, g2, g3, g4⟩ := hg rfl
        have gs := labelP_size g1
        simp only at g1 g2 gs ⊢
        have h1 := @putS_size s p
        have h2 := @putS_le s p
        rw [Bool.not_true, cond_false, if_neg (by simp)]
        have e : ∀ t : ByteArray, t = (if s = ⟨#[]⟩ then p else (s ++ ⟨#[46]⟩) ++ p) → bnd1 (s_NameOk t) (fun x26 => bif !x26 then (some ((⟨#[]⟩ : ByteArray), 0, 4, j)) else (s_l4Walk_l0 b fl to t nx bg j)) = some (if nameP t = true then walkF b fl to t nx bg j else (⟨#[]⟩, 0, 4, j)) := fun t ht => by
          rw [← ht] at h1 h2
          rw [s_NameOk_eq (by omega), bnd1_mk]
          cases hn : nameP t with
          | false => rfl
          | true =>
            have h3 := nameP_size hn
            rw [Bool.not_true, cond_false, if_pos rfl]
            exact s_walk_eq hb hl fl (m - 1) _ _ _ _ _ (by omega) (.inr (.inr (by omega))) (by omega) (by simp only [i64]; omega) (by omega) (by omega)
        by_cases c9 : s = ⟨#[]⟩
        · rw [decide_eq_true c9, Bool.not_true, cond_false]
          unfold s_l4Walk_j5
          have e9 : s ++ p = p := by rw [c9]; apply ba_ext; rw [ba_app]; rfl
          rw [grd_pos (by omega), e9, if_pos c9]
          exact e p (by rw [if_pos c9])
        · rw [decide_eq_false c9, Bool.not_false, cond_true]
          unfold s_l4Walk_j5
          rw [grd_pos (by show s.size + 1 ≤ _; omega), grd_pos (by rw [size_app]; show s.size + 1 + p.size ≤ _; omega), if_neg c9]
          exact e _ (by rw [if_neg c9])
    by_cases c10 : n ≤ 12
    · rw [decide_eq_true c10, cond_true, if_neg (by omega), grd_pos (by simp only [i64]; omega), grd_pos (by simp only [i64]; omega)]
      by_cases c11 : (b.length : Int) - at' ≤ n
      · rw [decide_eq_true (show (b.length : Int) - at' - 1 < n by omega), if_pos c11]; unfold s_l4Walk_j4; rfl
      · rw [decide_eq_false (show ¬ (b.length : Int) - at' - 1 < n by omega), if_neg c11]; exact hkey
    · rw [decide_eq_false c10, cond_false, if_pos (by omega), hkey]
      have : (getLabel b at').2.2 = false := by
        unfold getLabel
        rw [if_pos (by omega)]
        have e : b[at'.toNat]? = some n := by
          rw [← hnn, List.getD_eq_getElem?_getD, List.getElem?_eq_getElem (by omega)]; rfl
        rw [e]
        simp only
        rw [if_pos (.inl (by omega))]
      rw [if_pos this]

theorem joinB_pos {l : List ByteArray} (h : ∀ x, x ∈ l → 1 ≤ x.size) : l.length ≤ (joinB l ⟨#[46]⟩).size := by
  induction l with
  | nil => exact Nat.zero_le _
  | cons x t ih =>
    have hx := h x (.head _)
    have ih := ih fun y hy => h y (.tail _ hy)
    cases t with
    | nil => rw [joinB_one]; simpa using hx
    | cons y u =>
      rw [joinB_cons x _ (by simp), size_app, size_app]
      simp only [List.length_cons] at ih ⊢
      omega

theorem joinB_empty {l : List ByteArray} (h : ∀ x, x ∈ l → 1 ≤ x.size) : joinB l ⟨#[46]⟩ = ⟨#[]⟩ ↔ l = [] := by
  constructor
  · intro e
    have := joinB_pos h
    rw [e] at this
    have h0 : (⟨#[]⟩ : ByteArray).size = 0 := rfl
    exact List.length_eq_zero_iff.1 (by omega)
  · intro e; rw [e, joinB_nil]

theorem joinB_put {l : List ByteArray} {p : ByteArray} (h : ∀ x, x ∈ l → 1 ≤ x.size) : joinB (l ++ [p]) ⟨#[46]⟩ = (if joinB l ⟨#[46]⟩ = ⟨#[]⟩ then p else (joinB l ⟨#[46]⟩ ++ ⟨#[46]⟩) ++ p) := by
  by_cases c : l = []
  · rw [if_pos ((joinB_empty h).2 c), c, List.nil_append, joinB_one]
  · rw [if_neg fun e => c ((joinB_empty h).1 e), joinB_snoc _ _ c]

theorem i_JoinLabels_eq {l : List ByteArray} (h : l.length ≤ 10000000) (h2 : (joinB l ⟨#[46]⟩).size ≤ 10000000) : i_JoinLabels l = some (joinB l ⟨#[46]⟩) := by
  unfold i_JoinLabels strings_Join
  have h3 : (Lib.join (l.map fun x => x.data.toList) (⟨#[46]⟩ : ByteArray).data.toList).length = (joinB l ⟨#[46]⟩).size := by rw [← joinB_list]; rfl
  rw [grd_pos ⟨by omega, by rw [h3]; omega⟩, bnd1_mk]

theorem i_walk_eq {b : List Int} (hb : ∀ x, x ∈ b → 0 ≤ x ∧ x < 256) (hl : b.length ≤ 1048576) : ∀ (fl m : Nat) (ls : List ByteArray) (nx bg j at' : Int), m < fl → (at' < 0 ∨ (b.length : Int) ≤ at' ∨ bg.toNat + (60 - (joinB ls ⟨#[46]⟩).size) ≤ m) → (∀ x, x ∈ ls → 1 ≤ x.size) → (joinB ls ⟨#[46]⟩).size ≤ 50 → i64 at' → 0 ≤ j → j + m ≤ 100000000 →
    i_read_l0 b fl ls nx bg j at' = some (walkF b fl at' (joinB ls ⟨#[46]⟩) nx bg j)
  | 0, m, ls, nx, bg, j, at', hm, _, _, _, _, _, _ => by omega
  | fl + 1, m, ls, nx, bg, j, at', hm, hbg, hls, hs, hi, hj, hjm => by
    have hlen := joinB_pos hls
    have hput := fun p => @joinB_put ls p hls
    have hjoin := @i_JoinLabels_eq ls (by omega) (by omega)
    rw [i_read_l0, walkF]
    generalize hsn : joinB ls ⟨#[46]⟩ = s at hs hbg hlen hput hjoin ⊢
    simp only [i64] at hi
    by_cases c1 : at' < 0
    · rw [decide_eq_true c1, cond_true]
      unfold i_read_j1
      rw [cond_true, if_pos (.inl c1)]
    rw [decide_eq_false c1, cond_false]
    unfold i_read_j1
    by_cases c2 : (b.length : Int) ≤ at'
    · rw [decide_eq_true c2, cond_true, if_pos (.inr c2)]
    have hn := getD_rng hb at'.toNat
    have hy := getD_rng hb (at' + 1).toNat
    have hmm : bg.toNat + (60 - s.size) ≤ m := by omega
    rw [decide_eq_false c2, cond_false, if_neg (by omega), idx_gd (by omega) (by omega), bnd1_mk]
    have hg := @getLabel_ok b at' hb
    have hge := i_GetLabel_eq hb hl (i := at') (by simp only [i64]; omega)
    generalize hnn : b.getD at'.toNat 0 = n at hn hg ⊢
    rw [wrap_id (by omega)]
    by_cases c3 : n = 0
    · rw [decide_eq_true c3, cond_true, if_pos c3]
      unfold i_read_j2
      rw [hjoin, bnd1_mk, bnd1_mk]
      by_cases c4 : nx < 0
      · rw [decide_eq_true c4, cond_true, grd_pos (by simp only [i64]; omega), if_pos c4]
      · rw [decide_eq_false c4, cond_false, if_neg c4]
    rw [decide_eq_false c3, cond_false, if_neg c3]
    by_cases c5 : 192 ≤ n
    · rw [decide_eq_true c5, cond_true, if_pos c5, grd_pos (by simp only [i64]; omega)]
      by_cases c6 : (b.length : Int) ≤ at' + 1
      · rw [decide_eq_true c6, cond_true, if_pos c6]
      rw [decide_eq_false c6, cond_false, if_neg c6, grd_pos (by simp only [i64]; omega), grd_pos (by simp only [i64]; omega), grd_pos (by simp only [i64]; omega), idx_gd (by omega) (by omega), bnd1_mk]
      generalize b.getD (at' + 1).toNat 0 = y at hy ⊢
      rw [wrap_id (by omega), grd_pos (by simp only [i64]; omega)]
      by_cases c7 : bg ≤ 256 * (n - 192) + y
      · rw [decide_eq_true c7, cond_true, if_pos c7]
      rw [decide_eq_false c7, cond_false, if_neg c7]
      have ih : ∀ nx', i_read_l0 b fl ls nx' (256 * (n - 192) + y) (j + 1) (256 * (n - 192) + y) = some (walkF b fl (256 * (n - 192) + y) s nx' (256 * (n - 192) + y) (j + 1)) := fun nx' => by
        have := i_walk_eq hb hl fl (m - 1) ls nx' (256 * (n - 192) + y) (j + 1) (256 * (n - 192) + y) (by omega) (.inr (.inr (by rw [hsn]; omega))) hls (by rw [hsn]; omega) (by simp only [i64]; omega) (by omega) (by omega)
        rw [hsn] at this
        exact this
      unfold i_read_j3
      rw [wrap_id (by omega), wrap_id (by omega)]
      by_cases c8 : nx < 0
      · rw [decide_eq_true c8, cond_true, if_pos c8, grd_pos (by simp only [i64]; omega), grd_pos (by simp only [i64]; omega)]; exact ih _
      · rw [decide_eq_false c8, cond_false, if_neg c8, grd_pos (by simp only [i64]; omega)]; exact ih _
    rw [decide_eq_false c5, cond_false, if_neg c5]
    by_cases c10 : 12 < n
    · rw [decide_eq_true c10, cond_true, if_pos c10]
    rw [decide_eq_false c10, cond_false, if_neg c10, grd_pos (by simp only [i64]; omega)]
    by_cases c11 : (b.length : Int) - at' ≤ n
    · rw [decide_eq_true c11, cond_true, if_pos c11]
    rw [decide_eq_false c11, cond_false, if_neg c11, hge]
    generalize getLabel b at' = g at hg
    obtain ⟨p, to, ok⟩ := g
    rw [bnd3_mk]
    cases ok with
    | false => rfl
    | true =>
      obtain ⟨g1, g2, g3, g4⟩ := hg rfl
      have gs := labelP_size g1
      have h1 := @putS_size s p
      have h2 := @putS_le s p
      simp only at g1 g2 gs ⊢
      have hp := hput p
      have hls' : ∀ x, x ∈ ls ++ [p] → 1 ≤ x.size := fun x hx => by
        rcases List.mem_append.1 hx with hx | hx
        · exact hls x hx
        · rw [List.mem_singleton] at hx; rw [hx]; exact gs.1
      rw [Bool.not_true, cond_false, if_neg (by simp), ← hp, grd_pos (by simp; omega), i_JoinLabels_eq (by simp; omega) (by rw [hp]; omega), bnd1_mk]
      rw [← hp] at h1 h2
      rw [i_NameOk_eq (by omega), bnd1_mk]
      cases hn : nameP (joinB (ls ++ [p]) ⟨#[46]⟩) with
      | false => rfl
      | true =>
        have h3 := nameP_size hn
        rw [Bool.not_true, cond_false, if_pos rfl]
        exact i_walk_eq hb hl fl (m - 1) _ _ _ _ _ (by omega) (.inr (.inr (by omega))) hls' (by omega) (by simp only [i64]; omega) (by omega) (by omega)

/-- What is read at a place. -/
def readF (b : List Int) (i : Int) : ByteArray × Int × Int × Int := walkF b fuel0 i ⟨#[]⟩ (-1) i 0

theorem s_l4Walk_eq {b : List Int} {i : Int} (hb : ∀ x, x ∈ b → 0 ≤ x ∧ x < 256) (hl : b.length ≤ 1048576) (hi : i64 i) : s_l4Walk b i = some (readF b i) := by
  unfold s_l4Walk readF
  have h0 : (⟨#[]⟩ : ByteArray).size = 0 := rfl
  exact s_walk_eq hb hl fuel0 1048700 i _ _ _ _ (by unfold fuel0; omega) (by omega) (by omega) hi (by omega) (by omega)

theorem i_read_eq {b : List Int} {i : Int} (hb : ∀ x, x ∈ b → 0 ≤ x ∧ x < 256) (hl : b.length ≤ 1048576) (hi : i64 i) : i_read b i = some (readF b i) := by
  unfold i_read readF
  have h0 : (joinB [] ⟨#[46]⟩).size = 0 := by rw [joinB_nil]; rfl
  have := i_walk_eq hb hl fuel0 1048700 [] (-1) i 0 i (by unfold fuel0; omega) (by omega) (fun x hx => by cases hx) (by omega) hi (by omega) (by omega)
  rw [joinB_nil] at this
  exact this

def nameAt (b : List Int) (i : Int) : ByteArray × Int × Int := ((readF b i).1, (readF b i).2.1, (readF b i).2.2.1)

theorem s_GetName_eq {b : List Int} {i : Int} (hb : ∀ x, x ∈ b → 0 ≤ x ∧ x < 256) (hl : b.length ≤ 1048576) (hi : i64 i) : s_GetName b i = some (nameAt b i) := by
  unfold s_GetName nameAt
  rw [s_l4Walk_eq hb hl hi]; rfl

theorem i_GetName_eq {b : List Int} {i : Int} (hb : ∀ x, x ∈ b → 0 ≤ x ∧ x < 256) (hl : b.length ≤ 1048576) (hi : i64 i) : i_GetName b i = some (nameAt b i) := by
  unfold i_GetName nameAt
  rw [i_read_eq hb hl hi]; rfl

/-- Bytes, not too many. -/
def blk (b : List Int) (n : Nat) : Prop := b.length ≤ n ∧ ∀ x, x ∈ b → 0 ≤ x ∧ x < 256

theorem blk_app {a b : List Int} {m n : Nat} (h : blk a m) (k : blk b n) : blk (a ++ b) (m + n) := ⟨by have := h.1; have := k.1; simp; omega, fun q hq => by
  rcases List.mem_append.1 hq with hq | hq
  · exact h.2 q hq
  · exact k.2 q hq⟩

theorem blk_le {a : List Int} {m n : Nat} (h : blk a m) (hn : m ≤ n) : blk a n := ⟨Nat.le_trans h.1 hn, h.2⟩

theorem blk_nil : blk [] 0 := ⟨Nat.le_refl _, fun r hr => by cases hr⟩

theorem blk_cons {x : Int} {b : List Int} {n : Nat} (hx : 0 ≤ x ∧ x < 256) (t : blk b n) : blk (x :: b) (n + 1) := ⟨by have := t.1; simp; omega, fun q hq => by
  rcases List.mem_cons.1 hq with rfl | hq
  · exact hx
  · exact t.2 q hq⟩

theorem blk_bytes (s : ByteArray) : blk (bytesOf s) s.size := ⟨by rw [bytesOf_len]; exact Nat.le_refl _, fun x hx => bytesOf_rng hx⟩

theorem wrap8_rng (x : Int) : 0 ≤ IntKind.u8.wrap x ∧ IntKind.u8.wrap x < 256 := by
  simp [IntKind.wrap, IntKind.signed, IntKind.bits]; omega

theorem wrap8m {x : Int} (h : 0 ≤ x) : IntKind.u8.wrap x = x % 256 := by
  simp [IntKind.wrap, IntKind.signed, IntKind.bits]

theorem blk_w (x : Int) : blk [IntKind.u8.wrap x] 1 := blk_cons (wrap8_rng x) blk_nil

theorem slices_Clone_byte_eq {b : List Int} (h : b.length ≤ 1000000) : slices_Clone_byte b = some b := by
  unfold slices_Clone_byte
  rw [List.nil_append, grd_pos (by omega)]

theorem put2_same {b : List Int} {k : Int} {n : Nat} (hb : blk b n) (hn : n ≤ 900000) (hk : k < 9223372036854775808) : ∃ r, s_Put2 b k = some r ∧ i_Put2 b k = some r ∧ blk r (n + 2) := by
  have hl := hb.1
  unfold s_Put2 i_Put2 i_putBytes
  rw [slices_Clone_byte_eq (by omega), bnd1_mk, List.nil_append, grd_pos (by omega), s_l1In_eq, bnd1_mk]
  by_cases c1 : k < 0
  · rw [decide_eq_false (by omega), Bool.false_and, Bool.not_false, cond_true, decide_eq_true c1, cond_true]
    exact ⟨b, rfl, rfl, blk_le hb (by omega)⟩
  rw [decide_eq_true (by omega), Bool.true_and, decide_eq_false c1, cond_false]
  unfold i_putBytes_j0
  by_cases c2 : 65535 < k
  · rw [decide_eq_false (by omega), Bool.not_false, cond_true, decide_eq_true c2, cond_true]
    exact ⟨b, rfl, rfl, blk_le hb (by omega)⟩
  rw [decide_eq_true (by omega), Bool.not_true, cond_false, decide_eq_false c2, cond_false, grd_pos (by rw [List.length_append]; simp; omega), grd_pos (by simp only [i64]; omega)]
  have e1 : IntKind.u8.wrap (ishr .i64 k 0) = IntKind.u8.wrap (iand .i64 k 255) := by
    rw [ishr_nat (by omega) (by omega), iand_255n (by omega) (by omega), wrap8m (by omega), wrap8m (by omega)]
    simp
  unfold fuel0
  rw [i_putBytes_l1, show (2 : Int) - 1 = 1 from rfl, decide_eq_true (by omega), cond_true, grd_pos (by simp only [i64]; omega), grd_pos (by omega), grd_pos (by rw [List.length_append]; simp; omega), grd_pos (by simp only [i64]; omega), show (1 : Int) - 1 = 0 from rfl,
    i_putBytes_l1, decide_eq_true (by omega), cond_true, grd_pos (by simp only [i64]; omega), grd_pos (by omega), grd_pos (by simp only [List.length_append, List.length_singleton]; omega), grd_pos (by simp only [i64]; omega), i_putBytes_l1, decide_eq_false (by omega), cond_false, bnd1_mk]
  refine ⟨_, rfl, ?_, blk_app hb (blk_cons (wrap8_rng _) (blk_w _))⟩
  show some ((b ++ [IntKind.u8.wrap (ishr .i64 k 8)]) ++ [IntKind.u8.wrap (ishr .i64 k 0)]) = _
  rw [e1, List.append_assoc]; rfl

theorem put4_same {b : List Int} {k : Int} {n : Nat} (hb : blk b n) (hn : n ≤ 900000) (hk : k < 9223372036854775808) : ∃ r, s_Put4 b k = some r ∧ i_Put4 b k = some r ∧ blk r (n + 4) := by
  have hl := hb.1
  unfold s_Put4 i_Put4 i_putBytes
  rw [slices_Clone_byte_eq (by omega), bnd1_mk, List.nil_append, grd_pos (by omega), s_l1In_eq, bnd1_mk]
  by_cases c1 : k < 0
  · rw [decide_eq_false (by omega), Bool.false_and, Bool.not_false, cond_true, decide_eq_true c1, cond_true]
    exact ⟨b, rfl, rfl, blk_le hb (by omega)⟩
  rw [decide_eq_true (by omega), Bool.true_and, decide_eq_false c1, cond_false]
  unfold i_putBytes_j0
  by_cases c2 : 2147483647 < k
  · rw [decide_eq_false (by omega), Bool.not_false, cond_true, decide_eq_true c2, cond_true]
    exact ⟨b, rfl, rfl, blk_le hb (by omega)⟩
  rw [decide_eq_true (by omega), Bool.not_true, cond_false, decide_eq_false c2, cond_false, grd_pos (by rw [List.length_append]; simp; omega), grd_pos (by simp only [i64]; omega)]
  have e0 : IntKind.u8.wrap (ishr .i64 k 0) = IntKind.u8.wrap (iand .i64 k 255) := by
    rw [ishr_nat (by omega) (by omega), iand_255n (by omega) (by omega), wrap8m (by omega), wrap8m (by omega)]
    simp
  have es : ∀ j : Nat, j ≤ 64 → 0 ≤ ishr .i64 k j ∧ ishr .i64 k j < 9223372036854775808 := fun j hj => by
    rw [ishr_nat (by omega) hj]
    have h2 : (0 : Int) < 2 ^ j := Int.pow_pos (by decide)
    exact ⟨Int.ediv_nonneg (by omega) (by omega), by
      have := Int.ediv_le_self (2 ^ j) (show 0 ≤ k by omega)
      omega⟩
  have e1 : ∀ j : Nat, j ≤ 64 → IntKind.u8.wrap (iand .i64 (ishr .i64 k j) 255) = IntKind.u8.wrap (ishr .i64 k j) := fun j hj => by
    obtain ⟨h1, h2⟩ := es j hj
    rw [iand_255n h1 h2, wrap8m (by omega), wrap8m h1]
    omega
  unfold fuel0
  rw [e1 16 (by omega), e1 8 (by omega), ← e0, i_putBytes_l1, show (4 : Int) - 1 = 3 from rfl, decide_eq_true (by omega), cond_true, grd_pos (by simp only [i64]; omega), grd_pos (by omega), grd_pos (by rw [List.length_append]; simp; omega), grd_pos (by simp only [i64]; omega), show (3 : Int) - 1 = 2 from rfl,
    i_putBytes_l1, decide_eq_true (by omega), cond_true, grd_pos (by simp only [i64]; omega), grd_pos (by omega), grd_pos (by simp only [List.length_append, List.length_singleton]; omega), grd_pos (by simp only [i64]; omega), show (2 : Int) - 1 = 1 from rfl,
    i_putBytes_l1, decide_eq_true (by omega), cond_true, grd_pos (by simp only [i64]; omega), grd_pos (by omega), grd_pos (by simp only [List.length_append, List.length_singleton]; omega), grd_pos (by simp only [i64]; omega), show (1 : Int) - 1 = 0 from rfl,
    i_putBytes_l1, decide_eq_true (by omega), cond_true, grd_pos (by simp only [i64]; omega), grd_pos (by omega), grd_pos (by simp only [List.length_append, List.length_singleton]; omega), grd_pos (by simp only [i64]; omega), i_putBytes_l1, decide_eq_false (by omega), cond_false, bnd1_mk]
  refine ⟨_, rfl, ?_, blk_app hb (blk_cons (wrap8_rng _) (blk_cons (wrap8_rng _) (blk_cons (wrap8_rng _) (blk_w _))))⟩
  show some ((((b ++ [IntKind.u8.wrap (ishr .i64 k 24)]) ++ [IntKind.u8.wrap (ishr .i64 k 16)]) ++ [IntKind.u8.wrap (ishr .i64 k 8)]) ++ [IntKind.u8.wrap (ishr .i64 k 0)]) = _
  simp only [List.append_assoc, List.singleton_append]; rfl

/-- A label as bytes. -/
def lab (s : ByteArray) : List Int := (s.size : Int) :: bytesOf s

theorem lab_blk {s : ByteArray} (h : labelP s = true) : blk (lab s) 13 := by
  have := labelP_size h
  exact blk_le (blk_cons (by omega) (blk_bytes s)) (by omega)

theorem lab_len {s : ByteArray} (h : labelP s = true) : (lab s).length ≤ 13 := (lab_blk h).1

theorem s_PutLabel_eq {b : List Int} {s : ByteArray} (hb : b.length ≤ 900000) (h : labelP s = true) : s_PutLabel b s = some (b ++ lab s) := by
  have hs := labelP_size h
  have e : IntKind.u8.wrap (s.size : Int) = (s.size : Int) := wrap8 (by omega)
  unfold s_PutLabel
  rw [List.nil_append, grd_pos (by omega), s_LabelOk_eq (by omega), bnd1_mk, h, Bool.not_true, cond_false, grd_pos (by simp; omega), grd_pos (by simp [bytesOf_len]; omega), e, List.append_assoc]; rfl

theorem i_PutLabel_eq {b : List Int} {s : ByteArray} (hb : b.length ≤ 900000) (h : labelP s = true) : i_PutLabel b s = some (b ++ lab s) := by
  have hs := labelP_size h
  have e : IntKind.u8.wrap (s.size : Int) = (s.size : Int) := wrap8 (by omega)
  unfold i_PutLabel
  rw [slices_Clone_byte_eq (by omega), bnd1_mk, i_LabelOk_eq (by omega), bnd1_mk, h, Bool.not_true, cond_false, grd_pos (by simp; omega), grd_pos (by simp [bytesOf_len]; omega), e, List.append_assoc]; rfl

theorem flat_lab : ∀ {l : List ByteArray}, (∀ x, x ∈ l → labelP x = true) → blk (l.flatMap lab) (13 * l.length)
  | [], _ => blk_nil
  | x :: l, h => by
    rw [List.flatMap_cons, List.length_cons, show 13 * (l.length + 1) = 13 + 13 * l.length by omega]
    exact blk_app (lab_blk (h x (.head _))) (flat_lab fun y hy => h y (.tail _ hy))

theorem s_PutPlain_l1_eq : ∀ (l : List ByteArray) (out : List Int) (i : Nat), (∀ x, x ∈ l → labelP x = true) → out.length + 13 * l.length ≤ 800000 → s_PutPlain_l1 l out i = some ((out ++ l.flatMap lab) ++ [0])
  | [], out, i, _, h => by
    rw [s_PutPlain_l1]; unfold s_PutPlain_j0
    rw [grd_pos (by simp; omega)]; simp
  | x :: l, out, i, h, hl => by
    have hx := h x (.head _)
    have := lab_len hx
    simp only [List.length_cons] at hl
    rw [s_PutPlain_l1, s_PutLabel_eq (by omega) hx, bnd1_mk, s_PutPlain_l1_eq l _ _ (fun y hy => h y (.tail _ hy)) (by rw [List.length_append]; omega), List.flatMap_cons]
    simp only [List.append_assoc]

theorem i_PutPlain_l1_eq : ∀ (l : List ByteArray) (out : List Int) (i : Nat), (∀ x, x ∈ l → labelP x = true) → out.length + 13 * l.length ≤ 800000 → i_PutPlain_l1 l out i = some ((out ++ l.flatMap lab) ++ [0])
  | [], out, i, _, h => by
    rw [i_PutPlain_l1]; unfold i_PutPlain_j0
    rw [grd_pos (by simp; omega)]; simp
  | x :: l, out, i, h, hl => by
    have hx := h x (.head _)
    have := lab_len hx
    simp only [List.length_cons] at hl
    rw [i_PutPlain_l1, i_PutLabel_eq (by omega) hx, bnd1_mk, i_PutPlain_l1_eq l _ _ (fun y hy => h y (.tail _ hy)) (by rw [List.length_append]; omega), List.flatMap_cons]
    simp only [List.append_assoc]

theorem nameP_labels {s : ByteArray} (h : nameP s = true) : (∀ x, x ∈ labels s → labelP x = true) ∧ (labels s).length ≤ 6 := by
  unfold nameP at h
  simp only [Bool.and_eq_true, decide_eq_true_eq] at h
  exact ⟨fun x hx => List.all_eq_true.1 h.1 x hx, by omega⟩

theorem putPlain_same {b : List Int} {s : ByteArray} {n : Nat} (hb : blk b n) (hn : n ≤ 700000) (hs : s.size ≤ 1048576) : ∃ r, s_PutPlain b s = some r ∧ i_PutPlain b s = some r ∧ blk r (n + 79) ∧ (nameP s = true → r = (b ++ (labels s).flatMap lab) ++ [0]) := by
  have hl := hb.1
  unfold s_PutPlain i_PutPlain
  rw [List.nil_append, grd_pos (by omega), s_NameOk_eq hs, bnd1_mk, slices_Clone_byte_eq (by omega), bnd1_mk, i_NameOk_eq hs, bnd1_mk]
  cases hp : nameP s with
  | false => exact ⟨b, rfl, rfl, blk_le hb (by omega), fun h => by cases h⟩
  | true =>
    obtain ⟨h1, h2⟩ := nameP_labels hp
    rw [Bool.not_true, cond_false, cond_false, s_Labels_eq hs, bnd1_mk, i_Labels_eq hs, bnd1_mk, s_PutPlain_l1_eq _ _ _ h1 (by omega), i_PutPlain_l1_eq _ _ _ h1 (by omega)]
    exact ⟨_, rfl, rfl, blk_le (blk_app (blk_app hb (flat_lab h1)) (blk_cons (by omega) blk_nil)) (by omega), fun _ => rfl⟩

theorem joinB_tail {l : List ByteArray} (x : ByteArray) : (joinB l ⟨#[46]⟩).size ≤ (joinB (x :: l) ⟨#[46]⟩).size := by
  by_cases c : l = []
  · rw [c, joinB_nil]; exact Nat.zero_le _
  · rw [joinB_cons x _ c, size_app, size_app]; omega

theorem joinB_grow (l : List ByteArray) (x : ByteArray) : (joinB l ⟨#[46]⟩).size ≤ (joinB (l ++ [x]) ⟨#[46]⟩).size := by
  by_cases c : l = []
  · rw [c, joinB_nil]; exact Nat.zero_le _
  · rw [joinB_snoc x _ c, size_app, size_app]; omega

theorem joinB_mono : ∀ (t l : List ByteArray), (joinB l ⟨#[46]⟩).size ≤ (joinB (l ++ t) ⟨#[46]⟩).size
  | [], l => by rw [List.append_nil]; exact Nat.le_refl _
  | x :: t, l => by
    have h1 := joinB_grow l x
    have h2 := joinB_mono t (l ++ [x])
    rw [List.append_assoc, List.singleton_append] at h2
    omega

theorem s_JoinLabels_l0_eq : ∀ (t pre : List ByteArray), (joinB (pre ++ t) ⟨#[46]⟩).size ≤ 1000000 → s_JoinLabels_l0 t (joinB pre ⟨#[46]⟩) pre.length = some (joinB (pre ++ t) ⟨#[46]⟩)
  | [], pre, _ => by rw [s_JoinLabels_l0, List.append_nil]
  | x :: t, pre, h => by
    have h1 := joinB_mono t (pre ++ [x])
    rw [List.append_assoc, List.singleton_append] at h1
    have ih := s_JoinLabels_l0_eq t (pre ++ [x]) (by rw [List.append_assoc, List.singleton_append]; exact h)
    simp only [List.length_append, List.length_singleton, List.append_assoc, List.singleton_append] at ih
    rw [s_JoinLabels_l0]
    unfold s_JoinLabels_j1
    by_cases c : pre = []
    · subst c
      rw [decide_eq_false (by simp), cond_false, joinB_nil]
      have e : (⟨#[]⟩ : ByteArray) ++ x = joinB ([] ++ [x]) ⟨#[46]⟩ := by rw [List.nil_append, joinB_one]; apply ba_ext; rw [ba_app]; rfl
      have e2 : x.size ≤ 1000000 := by rw [List.nil_append, joinB_one] at h1; omega
      rw [grd_pos (by show 0 + x.size ≤ _; omega), e]
      exact ih
    · have hp : 0 < pre.length := List.length_pos_iff.2 c
      have e := joinB_snoc x (⟨#[46]⟩ : ByteArray) c
      have e3 : (joinB (pre ++ [x]) ⟨#[46]⟩).size = (joinB pre ⟨#[46]⟩).size + 1 + x.size := by rw [e, size_app, size_app]; rfl
      rw [decide_eq_true (by omega), cond_true, grd_pos (by show _ + 1 ≤ _; omega), grd_pos (by rw [size_app]; show _ + 1 + _ ≤ _; omega), ← e]
      exact ih

theorem s_JoinLabels_eq {l : List ByteArray} (h : (joinB l ⟨#[46]⟩).size ≤ 1000000) : s_JoinLabels l = some (joinB l ⟨#[46]⟩) := by
  have := s_JoinLabels_l0_eq l [] h
  rw [joinB_nil] at this
  exact this

/-- The names above a name, but for the last. -/
def sufJ : List ByteArray → List ByteArray
  | [] => []
  | x :: t => joinB (x :: t) ⟨#[46]⟩ :: sufJ t

theorem drop_pre (pre t : List ByteArray) : ((pre ++ t).drop (0 + ((pre.length : Nat) : Int).toNat)).take (((pre ++ t).length : Int).toNat - ((pre.length : Nat) : Int).toNat) = t := by
  rw [Nat.zero_add, Int.toNat_natCast, Int.toNat_natCast, List.drop_left, List.length_append, Nat.add_sub_cancel_left, List.take_length]

theorem i_Above_l1_eq : ∀ (t pre out : List ByteArray), out.length + t.length ≤ 1000 → t.length ≤ 1000 → (joinB t ⟨#[46]⟩).size ≤ 1000000 → i_Above_l1 (pre ++ t) t out pre.length = some ((out ++ sufJ t) ++ [⟨#[]⟩])
  | [], pre, out, h, _, _ => by
    rw [i_Above_l1]; unfold i_Above_j0
    rw [grd_pos (by simp at h ⊢; omega), sufJ, List.append_nil]
  | x :: t, pre, out, h, ht, hj => by
    simp only [List.length_cons] at h ht
    have h1 := @joinB_tail t x
    have ih := i_Above_l1_eq t (pre ++ [x]) (out ++ [joinB (x :: t) ⟨#[46]⟩]) (by simp; omega) (by omega) (by omega)
    simp only [List.length_append, List.length_singleton, List.append_assoc, List.singleton_append] at ih
    rw [i_Above_l1, drop_pre, grd_pos (by simp; omega), i_JoinLabels_eq (by simp; omega) (by omega), bnd1_mk, grd_pos (by simp; omega), ih, sufJ]
    simp

theorem s_Above_l0_eq : ∀ (t pre out : List ByteArray) (fl : Nat), t.length + 2 ≤ fl → out.length + t.length ≤ 1000 → pre.length + t.length ≤ 1000 → (joinB t ⟨#[46]⟩).size ≤ 1000000 → s_Above_l0 (pre ++ t) fl out ((pre.length : Nat) : Int) = some ((out ++ sufJ t) ++ [⟨#[]⟩])
  | [], pre, out, fl, hf, h, hp, _ => by
    obtain ⟨fl, rfl⟩ : ∃ q, fl = q + 2 := ⟨fl - 2, by simp at hf; omega⟩
    have e := drop_pre pre []
    rw [s_Above_l0, decide_eq_true (by simp), cond_true, e, grd_pos (by simp), s_JoinLabels_eq (by rw [joinB_nil]; show (0 : Nat) ≤ _; omega), bnd1_mk, joinB_nil, grd_pos (by simp at h ⊢; omega), grd_pos (by simp only [i64]; simp at hp; omega), s_Above_l0, decide_eq_false (by simp; omega), cond_false, sufJ, List.append_nil]
  | x :: t, pre, out, fl, hf, h, hp, hj => by
    simp only [List.length_cons] at h hp hf
    obtain ⟨fl, rfl⟩ : ∃ q, fl = q + 1 := ⟨fl - 1, by omega⟩
    have h1 := @joinB_tail t x
    have ih := s_Above_l0_eq t (pre ++ [x]) (out ++ [joinB (x :: t) ⟨#[46]⟩]) fl (by omega) (by simp; omega) (by simp; omega) (by omega)
    simp only [List.length_append, List.length_singleton, List.append_assoc, List.singleton_append] at ih
    have e : ((pre.length : Nat) : Int) + 1 = ((pre.length + 1 : Nat) : Int) := by omega
    rw [s_Above_l0, decide_eq_true (by simp; omega), cond_true, drop_pre, grd_pos (by simp; omega), s_JoinLabels_eq (by omega), bnd1_mk, grd_pos (by simp; omega), grd_pos (by simp only [i64]; omega), e, ih, sufJ]
    simp

theorem labels_join {s : ByteArray} : (joinB (labels s) ⟨#[46]⟩).size ≤ s.size := by
  by_cases c : s = ⟨#[]⟩
  · subst c
    show (joinB [] ⟨#[46]⟩).size ≤ _
    rw [joinB_nil]; exact Nat.le_refl _
  · rw [joinB_labels c]; exact Nat.le_refl _

theorem i_Above_eq {s : ByteArray} (hs : s.size ≤ 900) : i_Above s = some (sufJ (labels s) ++ [⟨#[]⟩]) := by
  have h1 := labels_len s
  have h2 := @labels_join s
  unfold i_Above
  rw [i_Labels_eq (by omega), bnd1_mk]
  exact i_Above_l1_eq (labels s) [] [] (by simp; omega) (by omega) (by omega)

theorem s_Above_eq {s : ByteArray} (hs : s.size ≤ 900) : s_Above s = some (sufJ (labels s) ++ [⟨#[]⟩]) := by
  have h1 := labels_len s
  have h2 := @labels_join s
  unfold s_Above
  rw [s_Labels_eq (by omega), bnd1_mk]
  by_cases c : s = ⟨#[]⟩
  · subst c
    show s_Above_l0 [] fuel0 [⟨#[]⟩] 1 = some ([] ++ [⟨#[]⟩])
    unfold fuel0
    rw [s_Above_l0, decide_eq_false (by simp), cond_false]; rfl
  · have hj := joinB_labels c
    cases hl : labels s with
    | nil =>
      rw [hl, joinB_nil] at hj
      exact absurd hj.symm c
    | cons x t =>
      rw [hl] at hj h1 h2
      have h3 := @joinB_tail t x
      simp only [List.length_cons] at h1
      have := s_Above_l0_eq t [x] [s] fuel0 (by unfold fuel0; omega) (by simp; omega) (by simp; omega) (by omega)
      rw [sufJ, hj]
      simpa using this

theorem placeOf_same {b : List Int} {s : ByteArray} (hb : ∀ x, x ∈ b → 0 ≤ x ∧ x < 256) (hl : b.length ≤ 1048576) : ∀ (k fl i : Nat), b.length - i ≤ k → k < fl → ∃ v, s_PlaceOf_l0 b s fl (i : Int) = some v ∧ i_PlaceOf_l0 b s fl (i : Int) = some v ∧ -1 ≤ v ∧ v ≤ 16383
  | k, fl, i, hk, hf => by
    obtain ⟨fl, rfl⟩ : ∃ q, fl = q + 1 := ⟨fl - 1, by omega⟩
    rw [s_PlaceOf_l0, i_PlaceOf_l0]
    unfold s_PlaceOf_j1 i_PlaceOf_j1
    by_cases c : (i : Int) < (b.length : Int)
    · rw [decide_eq_true c, cond_true, cond_true]
      by_cases c2 : (i : Int) ≤ 16383
      · rw [decide_eq_true c2, cond_true, cond_true, s_GetName_eq hb hl (by simp only [i64]; omega), i_GetName_eq hb hl (by simp only [i64]; omega)]
        generalize nameAt b (i : Int) = x
        obtain ⟨x1, x2, x3⟩ := x
        rw [bnd3_mk, bnd3_mk]
        have e : (i : Int) + 1 = ((i + 1 : Nat) : Int) := by omega
        have ih : ∃ v, s_PlaceOf_l0 b s fl ((i + 1 : Nat) : Int) = some v ∧ i_PlaceOf_l0 b s fl ((i + 1 : Nat) : Int) = some v ∧ -1 ≤ v ∧ v ≤ 16383 := by
          cases k with
          | zero => omega
          | succ k => exact placeOf_same hb hl k fl (i + 1) (by omega) (by omega)
        unfold s_PlaceOf_j2 i_PlaceOf_j2
        rw [grd_pos (by simp only [i64]; omega), grd_pos (by simp only [i64]; omega), e]
        cases decide (x3 = 0) with
        | false => exact ih
        | true =>
          rw [cond_true, cond_true]
          cases decide (x1 = s) with
          | false => exact ih
          | true => exact ⟨_, rfl, rfl, by omega, c2⟩
      · rw [decide_eq_false c2]; exact ⟨-1, rfl, rfl, by omega, by omega⟩
    · rw [decide_eq_false c]; exact ⟨-1, rfl, rfl, by omega, by omega⟩

def placeP (b : List Int) (s : ByteArray) : Int := (s_PlaceOf b s).getD (-1)

theorem placeP_eq {b : List Int} {s : ByteArray} {n : Nat} (hb : blk b n) (hn : n ≤ 1000000) : s_PlaceOf b s = some (placeP b s) ∧ i_PlaceOf b s = some (placeP b s) ∧ -1 ≤ placeP b s ∧ placeP b s ≤ 16383 := by
  have hl := hb.1
  obtain ⟨v, h1, h2, h3, h4⟩ := placeOf_same (s := s) hb.2 (by omega) b.length fuel0 0 (by omega) (by unfold fuel0; omega)
  have e1 : s_PlaceOf b s = some v := h1
  have e2 : i_PlaceOf b s = some v := h2
  unfold placeP
  rw [e1, e2]
  exact ⟨rfl, rfl, h3, h4⟩

def ptrB (p : Int) : List Int := [IntKind.u8.wrap (192 + IntKind.i64.wrap (Int.tdiv p 256)), IntKind.u8.wrap (Int.tmod p 256)]

theorem ptrB_blk (p : Int) : blk (ptrB p) 2 := blk_cons (wrap8_rng _) (blk_w _)

def nameOut (b : List Int) : List ByteArray → List Int → List Int
  | [], out => out ++ [0]
  | x :: t, out => if 0 ≤ placeP b (joinB (x :: t) ⟨#[46]⟩) then out ++ ptrB (placeP b (joinB (x :: t) ⟨#[46]⟩)) else nameOut b t (out ++ lab x)

theorem nameOut_blk {b : List Int} : ∀ (t : List ByteArray) (out : List Int) (n : Nat), (∀ x, x ∈ t → labelP x = true) → blk out n → blk (nameOut b t out) (n + 13 * t.length + 2)
  | [], out, n, _, h => blk_le (blk_app h (blk_cons (by omega) blk_nil)) (by simp)
  | x :: t, out, n, ht, h => by
    rw [nameOut]
    by_cases c : 0 ≤ placeP b (joinB (x :: t) ⟨#[46]⟩)
    · rw [if_pos c]; exact blk_le (blk_app h (ptrB_blk _)) (by omega)
    · rw [if_neg c]
      exact blk_le (nameOut_blk t _ _ (fun y hy => ht y (.tail _ hy)) (blk_app h (lab_blk (ht x (.head _))))) (by simp only [List.length_cons]; omega)

theorem sufJ_at : ∀ (pre t : List ByteArray) (x : ByteArray) (E : List ByteArray), (sufJ (pre ++ x :: t) ++ E)[pre.length]? = some (joinB (x :: t) ⟨#[46]⟩)
  | [], t, x, E => by rw [List.nil_append, sufJ]; rfl
  | p :: pre, t, x, E => by
    rw [List.cons_append, sufJ, List.cons_append, List.length_cons, List.getElem?_cons_succ]
    exact sufJ_at pre t x E

theorem ptr_ok {p : Int} (h : 0 ≤ p ∧ p ≤ 16383) : i64 (192 + IntKind.i64.wrap (Int.tdiv p 256)) := by
  have e : Int.tdiv p 256 = p / 256 := Int.tdiv_eq_ediv_of_nonneg h.1
  rw [e, wrap_id (by omega)]
  simp only [i64]; omega

theorem s_PutName_l1_eq {b : List Int} {n : Nat} (hb : blk b n) (hn : n ≤ 500000) : ∀ (t pre : List ByteArray) (out : List Int), (∀ x, x ∈ t → labelP x = true) → out.length + 13 * t.length ≤ 800000 → s_PutName_l1 b (sufJ (pre ++ t) ++ [⟨#[]⟩]) t out pre.length = some (nameOut b t out)
  | [], pre, out, _, h => by
    rw [s_PutName_l1]; unfold s_PutName_j0
    rw [grd_pos (by simp at h ⊢; omega), nameOut]
  | x :: t, pre, out, ht, h => by
    obtain ⟨p1, -, p3, p4⟩ := placeP_eq (s := joinB (x :: t) ⟨#[46]⟩) hb (by omega)
    simp only [List.length_cons] at h
    rw [s_PutName_l1, idx_nat, sufJ_at, bnd1_mk, p1, bnd1_mk, nameOut]
    by_cases c : 0 ≤ placeP b (joinB (x :: t) ⟨#[46]⟩)
    · rw [decide_eq_true c, cond_true, if_pos c, grd_pos (ptr_ok ⟨c, p4⟩), grd_pos (by simp; omega)]; rfl
    · have hx := ht x (.head _)
      have hl := lab_len hx
      have ih := s_PutName_l1_eq hb hn t (pre ++ [x]) (out ++ lab x) (fun y hy => ht y (.tail _ hy)) (by rw [List.length_append]; omega)
      simp only [List.length_append, List.length_singleton, List.append_assoc, List.singleton_append] at ih
      rw [decide_eq_false c, cond_false, if_neg c, s_PutLabel_eq (by omega) hx, bnd1_mk]
      exact ih

theorem i_PutName_l4_eq {x6 : List ByteArray} {p : Int} {pre t : List ByteArray} (h6 : x6 = pre ++ t) (hp : ∀ x, x ∈ pre → labelP x = true) : ∀ (r q : List ByteArray) (out : List Int) (fl : Nat), pre = q ++ r → r.length < fl → out.length + 13 * r.length ≤ 800000 → pre.length ≤ 1000 → i_PutName_l4 x6 pre.length p fl out ((q.length : Nat) : Int) = i_PutName_j3 p (out ++ r.flatMap lab)
  | [], q, out, fl, hq, hf, ho, hl => by
    obtain ⟨fl, rfl⟩ : ∃ k, fl = k + 1 := ⟨fl - 1, by omega⟩
    rw [List.append_nil] at hq
    subst hq
    rw [i_PutName_l4, decide_eq_false (by simp), cond_false, List.flatMap_nil, List.append_nil]
  | x :: r, q, out, fl, hq, hf, ho, hl => by
    obtain ⟨fl, rfl⟩ : ∃ k, fl = k + 1 := ⟨fl - 1, by omega⟩
    simp only [List.length_cons] at hf ho
    have hx := hp x (by rw [hq]; simp)
    have hb := lab_len hx
    have e1 : ((x6.drop (0 + ((0 : Nat) : Int).toNat)).take (((pre.length : Nat) : Int).toNat - ((0 : Nat) : Int).toNat)) = pre := by rw [h6]; simp
    have hlt : q.length < pre.length := by rw [hq]; simp
    have e2 : pre[q.length]? = some x := by rw [hq]; simp
    have e3 : ((q.length : Nat) : Int) + 1 = ((q.length + 1 : Nat) : Int) := by omega
    have ih := i_PutName_l4_eq (p := p) h6 hp r (q ++ [x]) (out ++ lab x) fl (by rw [hq]; simp) (by omega) (by rw [List.length_append]; omega) hl
    rw [List.length_append, List.length_singleton] at ih
    rw [i_PutName_l4, decide_eq_true (by simp; omega), cond_true, e1, idx_nat, e2, bnd1_mk, i_PutLabel_eq (by omega) hx, bnd1_mk, grd_pos (by simp only [i64]; omega), e3, ih, List.flatMap_cons]
    simp

theorem i_PutName_l1_eq {b : List Int} {s : ByteArray} {n : Nat} (hb : blk b n) (hn : n ≤ 500000) {ls : List ByteArray} (hls : ∀ x, x ∈ ls → labelP x = true) (hl6 : ls.length ≤ 6) (hpl : i_PutPlain b s = some ((b ++ ls.flatMap lab) ++ [0])) : ∀ (t pre : List ByteArray), ls = pre ++ t → i_PutName_l1 b s b ls (sufJ t ++ [⟨#[]⟩]) pre.length = some (nameOut b t (b ++ pre.flatMap lab))
  | [], pre, h => by
    obtain ⟨-, p2, -, -⟩ := placeP_eq (s := ⟨#[]⟩) hb (by omega)
    rw [List.append_nil] at h
    rw [sufJ, List.nil_append, i_PutName_l1, p2, bnd1_mk, decide_eq_true rfl, cond_true]
    unfold i_PutName_j2
    rw [cond_true, i_PutName_l1]
    unfold i_PutName_j0
    rw [hpl, bnd1_mk, nameOut, h]
  | x :: t, pre, h => by
    have hbl := hb.1
    have hx : labelP x = true := hls x (by rw [h]; simp)
    have hxs := labelP_size hx
    have hpre : ∀ y, y ∈ pre → labelP y = true := fun y hy => hls y (by rw [h]; simp [hy])
    have hlen : pre.length + (t.length + 1) = ls.length := by rw [h]; simp
    obtain ⟨-, p2, p3, p4⟩ := placeP_eq (s := joinB (x :: t) ⟨#[46]⟩) hb (by omega)
    have hne : ¬ (joinB (x :: t) ⟨#[46]⟩ = ⟨#[]⟩) := fun e => by
      have h1 := joinB_mono t [x]
      rw [List.singleton_append, e, joinB_one] at h1
      have h0 : (⟨#[]⟩ : ByteArray).size = 0 := rfl
      omega
    have ih := i_PutName_l1_eq (s := s) hb hn hls hl6 hpl t (pre ++ [x]) (by rw [h]; simp)
    rw [List.length_append, List.length_singleton, List.flatMap_append, List.flatMap_cons, List.flatMap_nil, List.append_nil, ← List.append_assoc] at ih
    rw [sufJ, List.cons_append, i_PutName_l1, p2, bnd1_mk, decide_eq_false hne, cond_false, nameOut]
    unfold i_PutName_j2
    by_cases c : 0 ≤ placeP b (joinB (x :: t) ⟨#[46]⟩)
    · have h4 := i_PutName_l4_eq (p := placeP b (joinB (x :: t) ⟨#[46]⟩)) h hpre pre [] b fuel0 rfl (by unfold fuel0; omega) (by omega) (by omega)
      have hfl := (flat_lab hpre).1
      rw [decide_eq_false (by omega), cond_false, grd_pos (by simp; omega), if_pos c]
      have h4' : i_PutName_l4 ls pre.length (placeP b (joinB (x :: t) ⟨#[46]⟩)) fuel0 b 0 = i_PutName_j3 (placeP b (joinB (x :: t) ⟨#[46]⟩)) (b ++ pre.flatMap lab) := h4
      rw [h4']
      unfold i_PutName_j3
      rw [grd_pos (ptr_ok ⟨c, p4⟩), grd_pos (by simp only [List.length_append, List.length_cons, List.length_nil]; omega)]; rfl
    · rw [decide_eq_true (by omega), cond_true, if_neg c]
      exact ih

theorem putName_same {b : List Int} {s : ByteArray} {n : Nat} (hb : blk b n) (hn : n ≤ 400000) (hs : s.size ≤ 1048576) : ∃ r, s_PutName b s = some r ∧ i_PutName b s = some r ∧ blk r (n + 80) := by
  have hl := hb.1
  obtain ⟨q, q1, q2, q3, q4⟩ := putPlain_same (s := s) hb (by omega) hs
  unfold s_PutName i_PutName
  rw [List.nil_append, grd_pos (by omega), s_NameOk_eq hs, bnd1_mk, slices_Clone_byte_eq (by omega), bnd1_mk, i_NameOk_eq hs, bnd1_mk]
  cases hp : nameP s with
  | false => exact ⟨b, rfl, rfl, blk_le hb (by omega)⟩
  | true =>
    obtain ⟨h1, h2⟩ := nameP_labels hp
    have h3 := nameP_size hp
    have h5 := s_PutName_l1_eq hb (by omega) (labels s) [] b h1 (by omega)
    have h6 := i_PutName_l1_eq (s := s) hb (by omega) h1 h2 (by rw [q2, q4 hp]) (labels s) [] rfl
    rw [List.flatMap_nil, List.append_nil] at h6
    rw [Bool.not_true, cond_false, cond_false, s_Above_eq (by omega), bnd1_mk, s_Labels_eq hs, bnd1_mk, i_Labels_eq hs, bnd1_mk, i_Above_eq (by omega), bnd1_mk]
    exact ⟨_, h5, h6, blk_le (nameOut_blk (labels s) b n h1 hb) (by omega)⟩

theorem putData_same {r : Rec} (h : r.sm) : ∃ d, s_PutData r = some d ∧ i_PutData r = some d ∧ blk d 200 := by
  obtain ⟨h1, h2, h3⟩ := id h
  unfold s_PutData i_PutData
  rw [s_RecordOk_eq h, bnd1_mk, i_RecordOk_eq h, bnd1_mk]
  cases hp : recP r with
  | false => exact ⟨[], rfl, rfl, blk_le blk_nil (by omega)⟩
  | true =>
    rw [Bool.not_true, cond_false, cond_false]
    obtain ⟨q, q1, q2, q3, -⟩ := putPlain_same (s := r.host) blk_nil (by omega) h2
    unfold recP at hp
    simp only [Bool.and_eq_true] at hp
    obtain ⟨-, -, hp⟩ := hp
    unfold i_PutData_j0
    by_cases c1 : r.ty = 1
    · rw [decide_eq_true c1, cond_true] at hp
      simp only [Bool.and_eq_true, inP, decide_eq_true_eq] at hp
      obtain ⟨d, d1, d2, d3⟩ := put4_same (k := r.n) blk_nil (by omega) (by omega)
      rw [decide_eq_true c1, cond_true, cond_true, d1, bnd1_mk, d2, bnd1_mk]
      exact ⟨d, rfl, rfl, blk_le d3 (by omega)⟩
    rw [decide_eq_false c1, cond_false] at hp
    rw [decide_eq_false c1, cond_false, cond_false]
    by_cases c2 : r.ty = 2
    · rw [decide_eq_true c2, cond_true, cond_true, q2, bnd1_mk, decide_eq_false (by omega), cond_false, decide_eq_false (by omega), cond_false, q1, bnd1_mk]
      exact ⟨q, rfl, rfl, blk_le q3 (by omega)⟩
    rw [decide_eq_false c2, Bool.false_or] at hp
    rw [decide_eq_false c2, cond_false]
    by_cases c5 : r.ty = 5
    · rw [decide_eq_true c5, cond_true, q2, bnd1_mk, decide_eq_false (by omega), cond_false, decide_eq_false (by omega), cond_false, q1, bnd1_mk]
      exact ⟨q, rfl, rfl, blk_le q3 (by omega)⟩
    rw [decide_eq_false c5, cond_false] at hp
    rw [decide_eq_false c5, cond_false]
    by_cases c6 : r.ty = 6
    · rw [decide_eq_true c6, cond_true] at hp
      simp only [Bool.and_eq_true, inP, decide_eq_true_eq] at hp
      obtain ⟨d, d1, d2, d3⟩ := put4_same (k := r.n) q3 (by omega) (by omega)
      rw [decide_eq_true c6, cond_true, cond_true, q1, bnd1_mk, d1, bnd1_mk, q2, bnd1_mk, d2, bnd1_mk]
      exact ⟨d, rfl, rfl, blk_le d3 (by omega)⟩
    · rw [decide_eq_false c6, cond_false] at hp
      simp only [Bool.and_eq_true, decide_eq_true_eq] at hp
      obtain ⟨c16, -, -, ht⟩ := hp
      unfold textP at ht
      simp only [Bool.and_eq_true, decide_eq_true_eq] at ht
      have hb := blk_app (blk_w (r.text.size : Int)) (blk_bytes r.text)
      have hl := hb.1
      rw [decide_eq_false c6, cond_false, cond_false, decide_eq_true c16, cond_true, grd_pos (by omega)]
      exact ⟨_, rfl, rfl, blk_le hb (by omega)⟩

theorem putRecord_same {b : List Int} {r : Rec} {n : Nat} (hb : blk b n) (hn : n ≤ 300000) (h : r.sm) (ht : i64 r.ty ∧ i64 r.ttl) : ∃ d, s_PutRecord b r = some d ∧ i_PutRecord b r = some d ∧ blk d (n + 300) := by
  obtain ⟨h1, h2, h3⟩ := id h
  have hl := hb.1
  simp only [i64] at ht
  unfold s_PutRecord i_PutRecord
  rw [List.nil_append, s_RecordOk_eq h, bnd1_mk, i_RecordOk_eq h, bnd1_mk, grd_pos (by omega), grd_pos (by omega)]
  cases hp : recP r with
  | false => exact ⟨b, rfl, rfl, blk_le hb (by omega)⟩
  | true =>
    obtain ⟨d, d1, d2, d3⟩ := putData_same h
    obtain ⟨x, x1, x2, x3⟩ := putName_same (s := r.name) hb (by omega) h1
    obtain ⟨y, y1, y2, y3⟩ := put2_same (k := r.ty) x3 (by omega) (by omega)
    obtain ⟨z, z1, z2, z3⟩ := put2_same (k := 1) y3 (by omega) (by omega)
    obtain ⟨u, u1, u2, u3⟩ := put4_same (k := r.ttl) z3 (by omega) (by omega)
    have hd := d3.1
    obtain ⟨v, v1, v2, v3⟩ := put2_same (k := (d.length : Int)) u3 (by omega) (by omega)
    have hv := blk_app v3 d3
    have hvl := hv.1
    rw [Bool.not_true, cond_false, cond_false, x1, bnd1_mk, y1, bnd1_mk, z1, bnd1_mk, u1, bnd1_mk, d1, bnd1_mk, v1, bnd1_mk, d2, bnd1_mk, x2, bnd1_mk, y2, bnd1_mk, z2, bnd1_mk, u2, bnd1_mk, v2, bnd1_mk, grd_pos (by omega)]
    exact ⟨_, rfl, rfl, blk_le hv (by omega)⟩

theorem putRecords_l0_same : ∀ (l : List Rec) (b : List Int) (i : Nat) (n : Nat), blk b n → n + 300 * l.length ≤ 300000 → (∀ r, r ∈ l → r.sm ∧ i64 r.ty ∧ i64 r.ttl) → ∃ d, s_PutRecords_l0 l b i = some d ∧ i_PutRecords_l0 l b i = some d ∧ blk d (n + 300 * l.length)
  | [], b, i, n, hb, _, _ => ⟨b, rfl, rfl, hb⟩
  | r :: l, b, i, n, hb, hn, h => by
    simp only [List.length_cons] at hn ⊢
    obtain ⟨h1, h2⟩ := h r (.head _)
    obtain ⟨d, d1, d2, d3⟩ := putRecord_same hb (by omega) h1 h2
    obtain ⟨e, e1, e2, e3⟩ := putRecords_l0_same l d (i + 1) (n + 300) d3 (by omega) fun q hq => h q (.tail _ hq)
    rw [s_PutRecords_l0, d1, bnd1_mk, i_PutRecords_l0, d2, bnd1_mk]
    exact ⟨e, e1, e2, blk_le e3 (by omega)⟩

theorem putRecords_same {b : List Int} {l : List Rec} {n : Nat} (hb : blk b n) (hn : n + 300 * l.length ≤ 300000) (h : ∀ r, r ∈ l → r.sm ∧ i64 r.ty ∧ i64 r.ttl) : ∃ d, s_PutRecords b l = some d ∧ i_PutRecords b l = some d ∧ blk d (n + 300 * l.length) := by
  have hl := hb.1
  unfold s_PutRecords i_PutRecords
  rw [List.nil_append, grd_pos (by omega), grd_pos (by omega)]
  exact putRecords_l0_same l b 0 n hb hn h

def msgP (m : MMsg) : Bool := inP m.id 0 65535 && (inP m.code 0 15 && (questP m.q && (listP 8 m.an && (listP 8 m.au && listP 8 m.ad))))

theorem s_MsgOk_eq {m : MMsg} (h : m.sm) : s_MsgOk m = some (msgP m) := by
  unfold s_MsgOk msgP
  rw [s_l1In_eq, bnd1_mk, s_l1In_eq, bnd1_mk, s_QuestOk_eq h.1, bnd1_mk, s_l7List_eq h.2.1, bnd1_mk, s_l7List_eq h.2.2.1, bnd1_mk, s_l7List_eq h.2.2.2, bnd1_mk]
  unfold inP
  cases (decide (0 ≤ m.id) && decide (m.id ≤ 65535)) <;> cases (decide (0 ≤ m.code) && decide (m.code ≤ 15)) <;> cases questP m.q <;> cases listP 8 m.an <;> cases listP 8 m.au <;> rfl

theorem i_MsgOk_eq {m : MMsg} (h : m.sm) : i_MsgOk m = some (msgP m) := by
  unfold i_MsgOk msgP
  rw [i_QuestOk_eq h.1, bnd1_mk, i_allOk_eq h.2.1, bnd1_mk, i_allOk_eq h.2.2.1, bnd1_mk, i_allOk_eq h.2.2.2, bnd1_mk]
  unfold inP
  cases decide (0 ≤ m.id) <;> cases decide (m.id ≤ 65535) <;> cases decide (0 ≤ m.code) <;> cases decide (m.code ≤ 15) <;> cases questP m.q <;> cases listP 8 m.an <;> cases listP 8 m.au <;> rfl

theorem l8Flag_eq {a : Bool} {k : Int} : s_l8Flag a k = some (bif a then k else 0) := by unfold s_l8Flag; cases a <;> rfl

theorem bit_eq {a : Bool} {k : Int} : i_bit a k = some (bif a then k else 0) := by unfold i_bit; cases a <;> rfl

theorem flag_rng (a : Bool) {k : Int} (h : 0 ≤ k ∧ k ≤ 128) : 0 ≤ (bif a then k else 0) ∧ (bif a then k else 0) ≤ 128 := by cases a <;> simp <;> omega

theorem iand_15 (x : Int) : 0 ≤ iand .i64 x 15 ∧ iand .i64 x 15 ≤ 15 := by
  unfold iand
  have h : (BitVec.ofInt (IntKind.i64).bits x &&& BitVec.ofInt (IntKind.i64).bits 15).toNat ≤ 15 := by
    rw [BitVec.toNat_and]; exact Nat.le_trans Nat.and_le_right (by decide)
  generalize (BitVec.ofInt (IntKind.i64).bits x &&& BitVec.ofInt (IntKind.i64).bits 15).toNat = n at h
  rw [wrap_id (by omega)]; omega

theorem putHead_same {m : MMsg} (h : m.sm) (hi : i64 m.id) : ∃ d, s_PutHead m = some d ∧ i_PutHead m = some d ∧ blk d 12 := by
  obtain ⟨-, ⟨ha, -⟩, ⟨hb, -⟩, ⟨hc, -⟩⟩ := h
  simp only [i64] at hi
  unfold s_PutHead i_PutHead
  simp only [l8Flag_eq, bit_eq, bnd1_mk]
  have f1 := flag_rng m.reply (k := 128) (by omega)
  have f2 := flag_rng m.auth (k := 4) (by omega)
  have f3 := flag_rng m.cut (k := 2) (by omega)
  have f4 := flag_rng m.want (k := 1) (by omega)
  have f5 := flag_rng m.can (k := 128) (by omega)
  have f6 := iand_15 m.code
  generalize (bif m.reply then (128 : Int) else 0) = v1 at f1
  generalize (bif m.auth then (4 : Int) else 0) = v2 at f2
  generalize (bif m.cut then (2 : Int) else 0) = v3 at f3
  generalize (bif m.want then (1 : Int) else 0) = v4 at f4
  generalize (bif m.can then (128 : Int) else 0) = v5 at f5
  generalize iand .i64 m.code 15 = v6 at f6
  obtain ⟨x, x1, x2, x3⟩ := put2_same (k := m.id) blk_nil (by omega) (by omega)
  have hx := blk_app x3 (blk_cons (wrap8_rng (v1 + v2 + v3 + v4)) (blk_w (v5 + v6)))
  have hxl := hx.1
  obtain ⟨y, y1, y2, y3⟩ := put2_same (k := 1) hx (by omega) (by omega)
  obtain ⟨z, z1, z2, z3⟩ := put2_same (k := (m.an.length : Int)) y3 (by omega) (by omega)
  obtain ⟨u, u1, u2, u3⟩ := put2_same (k := (m.au.length : Int)) z3 (by omega) (by omega)
  obtain ⟨v, g1, g2, g3⟩ := put2_same (k := (m.ad.length : Int)) u3 (by omega) (by omega)
  have hloop : i_PutHead_l0 m fuel0 y 0 = some v := by
    unfold fuel0
    rw [i_PutHead_l0, decide_eq_true (by omega), cond_true, show idx [m.an, m.au, m.ad] 0 = some m.an from rfl, bnd1_mk, z2, bnd1_mk, grd_pos (by simp only [i64]; omega), show (0 : Int) + 1 = 1 from rfl,
      i_PutHead_l0, decide_eq_true (by omega), cond_true, show idx [m.an, m.au, m.ad] 1 = some m.au from rfl, bnd1_mk, u2, bnd1_mk, grd_pos (by simp only [i64]; omega), show (1 : Int) + 1 = 2 from rfl,
      i_PutHead_l0, decide_eq_true (by omega), cond_true, show idx [m.an, m.au, m.ad] 2 = some m.ad from rfl, bnd1_mk, g2, bnd1_mk, grd_pos (by simp only [i64]; omega), show (2 : Int) + 1 = 3 from rfl,
      i_PutHead_l0, decide_eq_false (by omega), cond_false]
  rw [x1, bnd1_mk, grd_pos (by simp only [i64]; omega), grd_pos (by simp only [i64]; omega), grd_pos (by simp only [i64]; omega), grd_pos (by simp only [i64]; omega), grd_pos (by omega), y1, bnd1_mk, z1, bnd1_mk, u1, bnd1_mk, g1, bnd1_mk, x2, bnd1_mk, grd_pos (by simp only [i64]; omega), grd_pos (by simp only [i64]; omega), grd_pos (by simp only [i64]; omega), grd_pos (by simp only [i64]; omega), grd_pos (by omega), y2, bnd1_mk, hloop]
  exact ⟨v, rfl, rfl, blk_le g3 (by omega)⟩

/-- A message whose numbers are numbers. -/
def MMsg.nm (m : MMsg) : Prop := i64 m.id ∧ i64 m.q.ty ∧ ∀ l, l ∈ [m.an, m.au, m.ad] → ∀ r : Rec, r ∈ l → i64 r.ty ∧ i64 r.ttl

theorem putMsg_same {m : MMsg} (h : m.sm) (hm : m.nm) : ∃ d, s_PutMsg m = some d ∧ i_PutMsg m = some d ∧ blk d 100000 := by
  obtain ⟨hi, hq, hr⟩ := hm
  obtain ⟨kq, ka, kb, kd⟩ := id h
  unfold s_PutMsg i_PutMsg
  rw [s_MsgOk_eq h, bnd1_mk, i_MsgOk_eq h, bnd1_mk]
  cases hp : msgP m with
  | false => exact ⟨[], rfl, rfl, blk_le blk_nil (by omega)⟩
  | true =>
    unfold msgP listP at hp
    simp only [Bool.and_eq_true, decide_eq_true_eq] at hp
    obtain ⟨-, -, -, ⟨-, la⟩, ⟨-, lb⟩, ⟨-, ld⟩⟩ := hp
    simp only [i64] at hq
    obtain ⟨x, x1, x2, x3⟩ := putHead_same h hi
    obtain ⟨y, y1, y2, y3⟩ := putName_same (s := m.q.name) x3 (by omega) kq
    obtain ⟨z, z1, z2, z3⟩ := put2_same (k := m.q.ty) y3 (by omega) (by omega)
    obtain ⟨u, u1, u2, u3⟩ := put2_same (k := 1) z3 (by omega) (by omega)
    obtain ⟨a, a1, a2, a3⟩ := putRecords_same (l := m.an) u3 (by omega) (fun r hr' => ⟨ka.2 r hr', hr m.an (.head _) r hr'⟩)
    obtain ⟨b, b1, b2, b3⟩ := putRecords_same (l := m.au) a3 (by omega) (fun r hr' => ⟨kb.2 r hr', hr m.au (.tail _ (.head _)) r hr'⟩)
    obtain ⟨d, d1, d2, d3⟩ := putRecords_same (l := m.ad) b3 (by omega) (fun r hr' => ⟨kd.2 r hr', hr m.ad (.tail _ (.tail _ (.head _))) r hr'⟩)
    have hloop : i_PutMsg_l1 m fuel0 u 0 = i_PutMsg_j0 d := by
      unfold fuel0
      rw [i_PutMsg_l1, decide_eq_true (by omega), cond_true, show idx [m.an, m.au, m.ad] 0 = some m.an from rfl, bnd1_mk, a2, bnd1_mk, grd_pos (by simp only [i64]; omega), show (0 : Int) + 1 = 1 from rfl,
        i_PutMsg_l1, decide_eq_true (by omega), cond_true, show idx [m.an, m.au, m.ad] 1 = some m.au from rfl, bnd1_mk, b2, bnd1_mk, grd_pos (by simp only [i64]; omega), show (1 : Int) + 1 = 2 from rfl,
        i_PutMsg_l1, decide_eq_true (by omega), cond_true, show idx [m.an, m.au, m.ad] 2 = some m.ad from rfl, bnd1_mk, d2, bnd1_mk, grd_pos (by simp only [i64]; omega), show (2 : Int) + 1 = 3 from rfl,
        i_PutMsg_l1, decide_eq_false (by omega), cond_false]
    rw [Bool.not_true, cond_false, cond_false, x1, bnd1_mk, y1, bnd1_mk, z1, bnd1_mk, u1, bnd1_mk, a1, bnd1_mk, b1, bnd1_mk, d1, bnd1_mk, x2, bnd1_mk, y2, bnd1_mk, z2, bnd1_mk, u2, bnd1_mk, hloop]
    unfold i_PutMsg_j0
    cases decide (512 < (d.length : Int)) with
    | true => exact ⟨[], rfl, rfl, blk_le blk_nil (by omega)⟩
    | false => exact ⟨d, rfl, rfl, blk_le d3 (by omega)⟩

theorem ok_nm {m : MMsg} (h : m.ok) : m.nm := by
  obtain ⟨h1, h2, h3, h4, h5, h6⟩ := h
  refine ⟨h1, h3.2, fun l hl r hr => ?_⟩
  have key : ∀ r : Rec, r.ok → i64 r.ty ∧ i64 r.ttl := fun r hr => ⟨hr.2.1, hr.2.2.1⟩
  simp only [List.mem_cons, List.not_mem_nil, or_false] at hl
  rcases hl with rfl | rfl | rfl
  · exact key r (h4.2 r hr)
  · exact key r (h5.2 r hr)
  · exact key r (h6.2 r hr)

theorem law_Fits {m : MMsg} (hm : m.ok) : w_FnExactFits m = some true := by
  unfold w_FnExactFits
  obtain ⟨v, h3, h4, h5⟩ := w_szMsg_p hm (n := 1048576) (by omega)
  rw [h3]
  by_cases c : v < 0
  · simp [c]
  · have h6 := h5 (by omega)
    obtain ⟨d, d1, d2, d3⟩ := putMsg_same h6 (ok_nm hm)
    simp [c, w_toMsg_eq h6, s_Fits, i_Fits, s_SizeOf, i_SizeOf, d1, d2, w_eqMsg_self]
end Go.Abs.M
