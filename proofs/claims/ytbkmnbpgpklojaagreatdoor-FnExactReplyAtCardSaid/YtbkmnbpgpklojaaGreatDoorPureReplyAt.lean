/- The pure law of ReplyAt: its pure function answers true. -/
import Derived.Test.YtbkmnbpgpklojaaGreatDoorFnsReplyAt
set_option linter.unusedSimpArgs false
set_option linter.unusedVariables false
namespace Go.Abs.M
open Go Go.Abs
theorem idx_nat {α : Type} {l : List α} {n : Nat} : idx l (n : Int) = l[n]? := by simp [idx]

theorem w_toRecord_eq {r : Rec} : w_toRecord r = some r := rfl

theorem w_toRecordS_l0_eq : ∀ (t pre : List Rec) (z : List Rec), z.length = t.length → w_toRecordS_l0 t (pre ++ z) pre.length = some (pre ++ t)
  | [], pre, z, hz => by cases z with | nil => rfl | cons a b => simp at hz
  | r :: t, pre, z, hz => by
    cases z with
    | nil => simp at hz
    | cons a z =>
      rw [w_toRecordS_l0]
      have := w_toRecordS_l0_eq t (pre ++ [r]) z (by simpa using hz)
      simp only [w_toRecord_eq, bnd1_mk, idx_nat]
      simp [bnd1] at this ⊢
      simpa using this

theorem w_toRecordS_eq {l : List Rec} (h : l.length ≤ 1099511627776) : w_toRecordS l = some l := by
  unfold w_toRecordS
  rw [grd_pos (by omega)]
  have := w_toRecordS_l0_eq l [] (List.replicate l.length ⟨⟨#[]⟩, 0, 0, 0, ⟨#[]⟩, ⟨#[]⟩⟩) (by simp)
  simpa using this

theorem w_eqRecord_self {a : Rec} : w_eqRecord a a = some true := by unfold w_eqRecord; simp

theorem w_eqRecordS_l0_self : ∀ (t pre : List Rec), w_eqRecordS_l0 (pre ++ t) t pre.length = some true
  | [], pre => rfl
  | r :: t, pre => by
    rw [w_eqRecordS_l0]
    have := w_eqRecordS_l0_self t (pre ++ [r])
    simp only [idx_nat]
    simp [w_eqRecord_self] at this ⊢
    exact this

theorem w_eqRecordS_self {l : List Rec} : w_eqRecordS l l = some true := by
  unfold w_eqRecordS
  have := w_eqRecordS_l0_self l []
  simpa using this

theorem w_eqZone_self {z : MZone} : w_eqZone z z = some true := by unfold w_eqZone; simp [w_eqRecordS_self]

def zrec : Rec := ⟨⟨#[]⟩, 0, 0, 0, ⟨#[]⟩, ⟨#[]⟩⟩

def first (p : Rec → Bool) (l : List Rec) : Rec := (l.find? p).getD zrec

theorem s_StartOf_l1_eq : ∀ (l : List Rec) (i : Nat), s_StartOf_l1 l i = some (first (fun r => decide (r.ty = 6)) l)
  | [], i => rfl
  | r :: l, i => by
    rw [s_StartOf_l1, s_StartOf_l1_eq l (i + 1)]
    by_cases c : r.ty = 6 <;> simp [first, c]

theorem s_StartOf_eq {z : MZone} : s_StartOf z = some (first (fun r => decide (r.ty = 6)) z.l) := s_StartOf_l1_eq _ _

theorem i_firstOf_l1_eq : ∀ (l : List Rec) (k : Int) (i : Nat), i_firstOf_l1 k l i = some (first (fun r => decide (r.ty = k)) l)
  | [], k, i => rfl
  | r :: l, k, i => by
    rw [i_firstOf_l1, i_firstOf_l1_eq l k (i + 1)]
    by_cases c : r.ty = k <;> simp [first, c]

theorem i_firstOf_eq {l : List Rec} {k : Int} : i_firstOf l k = some (first (fun r => decide (r.ty = k)) l) := i_firstOf_l1_eq _ _ _

theorem i_StartOf_eq {z : MZone} : i_StartOf z = some (first (fun r => decide (r.ty = 6)) z.l) := by unfold i_StartOf; rw [i_firstOf_eq]; rfl

theorem w_toQuest_eq {q : Quest} : w_toQuest q = some q := rfl

theorem w_eqQuest_self {q : Quest} : w_eqQuest q q = some true := by unfold w_eqQuest; simp

theorem w_eqMsg_self {m : MMsg} : w_eqMsg m m = some true := by unfold w_eqMsg; simp [w_eqRecordS_self, w_eqQuest_self]

def setOf (l : List Rec) (nm : ByteArray) (k : Int) : List Rec := l.filter fun r => decide (r.name = nm) && decide (r.ty = k)

theorem setOf_len (l : List Rec) (nm : ByteArray) (k : Int) : (setOf l nm k).length ≤ l.length := List.length_filter_le ..

theorem i_SetOf_l0_eq (nm : ByteArray) (k : Int) : ∀ (l out : List Rec) (i : Nat), out.length + l.length ≤ 1099511627776 → i_SetOf_l0 nm k l out i = some (out ++ setOf l nm k)
  | [], out, i, _ => by simp [i_SetOf_l0, setOf]
  | r :: l, out, i, h => by
    simp only [List.length_cons] at h
    have h1 := i_SetOf_l0_eq nm k l (out ++ [r]) (i + 1) (by simp; omega)
    have h2 := i_SetOf_l0_eq nm k l out (i + 1) (by omega)
    rw [i_SetOf_l0]
    by_cases c : r.name = nm <;> by_cases c' : r.ty = k <;> simp [i_SetOf_j1, c, c', h2, setOf] <;> first
      | (rw [grd_pos (by omega), h1]; simp [setOf, c, c'])

theorem s_SetOf_l0_eq (nm : ByteArray) (k : Int) : ∀ (l out : List Rec) (i : Nat), out.length + l.length ≤ 1099511627776 → s_SetOf_l0 nm k l out i = some (out ++ setOf l nm k)
  | [], out, i, _ => by simp [s_SetOf_l0, setOf]
  | r :: l, out, i, h => by
    simp only [List.length_cons] at h
    have h1 := s_SetOf_l0_eq nm k l (out ++ [r]) (i + 1) (by simp; omega)
    have h2 := s_SetOf_l0_eq nm k l out (i + 1) (by omega)
    rw [s_SetOf_l0]
    by_cases c : r.name = nm <;> by_cases c' : r.ty = k <;> simp [s_SetOf_j1, c, c', h2, setOf] <;> first
      | (rw [grd_pos (by omega), h1]; simp [setOf, c, c'])

def Rec.sm (r : Rec) : Prop := r.name.size ≤ 1048576 ∧ r.host.size ≤ 1048576 ∧ r.text.size ≤ 1048576

def smL (l : List Rec) : Prop := l.length ≤ 1048576 ∧ ∀ r, r ∈ l → r.sm

def okL (l : List Rec) : Prop := l.length ≤ 9223372036854775807 ∧ ∀ r, r ∈ l → r.ok

theorem w_szRecord_p {r : Rec} {n : Int} (hr : r.ok) (hn : 0 ≤ n ∧ n ≤ 1048576) : ∃ v, w_szRecord r n = some v ∧ v ≤ n ∧ (0 ≤ v → r.sm) := by
  obtain ⟨h1, -, -, -, h2, h3⟩ := hr
  unfold w_szRecord Rec.sm
  rw [grd_pos (by simp only [i64]; omega)]
  by_cases c1 : n - (r.name.size : Int) < 0
  · exact ⟨-1, by simp [c1], by omega, by omega⟩
  · simp only [c1, decide_false, cond_false]
    rw [grd_pos (by simp only [i64]; omega)]
    by_cases c2 : n - (r.name.size : Int) - (r.host.size : Int) < 0
    · exact ⟨-1, by simp [c2], by omega, by omega⟩
    · simp only [c2, decide_false, cond_false]
      rw [grd_pos (by simp only [i64]; omega)]
      by_cases c3 : n - (r.name.size : Int) - (r.host.size : Int) - (r.text.size : Int) < 0
      · exact ⟨-1, by simp [c3], by omega, by omega⟩
      · exact ⟨_, by simp only [c3, decide_false, cond_false]; rfl, by omega, by omega⟩

theorem w_szRecordS_l0_p : ∀ (l : List Rec) (n : Int) (i : Nat), (∀ r, r ∈ l → r.ok) → 0 ≤ n ∧ n ≤ 1048576 → ∃ v, w_szRecordS_l0 l n i = some v ∧ v ≤ n ∧ (0 ≤ v → ∀ r, r ∈ l → r.sm)
  | [], n, i, _, _ => ⟨n, rfl, Int.le_refl _, fun _ r hr => by cases hr⟩
  | r :: l, n, i, hr, hn => by
    obtain ⟨v, h1, h2, h2'⟩ := w_szRecord_p (hr r (.head _)) hn
    rw [w_szRecordS_l0, h1]
    by_cases c : v < 0
    · exact ⟨-1, by simp [c], by omega, by omega⟩
    · obtain ⟨w, h3, h4, h5⟩ := w_szRecordS_l0_p l v (i + 1) (fun q hq => hr q (.tail _ hq)) (by omega)
      exact ⟨w, by simp [c, h3], by omega, fun h q hq => by
        cases hq with
        | head => exact h2' (by omega)
        | tail _ hq => exact h5 h q hq⟩

theorem w_szRecordS_p {l : List Rec} {n : Int} (hl : okL l) (hn : 0 ≤ n ∧ n ≤ 1048576) : ∃ v, w_szRecordS l n = some v ∧ v ≤ n ∧ (0 ≤ v → smL l) := by
  obtain ⟨h0, hr⟩ := hl
  unfold w_szRecordS
  rw [grd_pos (by simp only [i64]; omega)]
  by_cases c : n - (l.length : Int) < 0
  · exact ⟨-1, by simp [c], by omega, by omega⟩
  · obtain ⟨v, h1, h2, h3⟩ := w_szRecordS_l0_p l (n - l.length) 0 hr (by omega)
    exact ⟨v, by simp [c, h1], by omega, fun h => ⟨by omega, h3 h⟩⟩

def MZone.sm (z : MZone) : Prop := z.apex.size ≤ 1048576 ∧ smL z.l

theorem w_szZone_p {z : MZone} {n : Int} (hz : z.ok) (hn : 0 ≤ n ∧ n ≤ 1048576) : ∃ v, w_szZone z n = some v ∧ v ≤ n ∧ (0 ≤ v → z.sm) := by
  obtain ⟨h1, h2⟩ := hz
  unfold w_szZone
  rw [grd_pos (by simp only [i64]; omega)]
  by_cases c : n - (z.apex.size : Int) < 0
  · exact ⟨-1, by simp [c], by omega, by omega⟩
  · obtain ⟨v, h3, h4, h5⟩ := w_szRecordS_p h2 (n := n - z.apex.size) (by omega)
    by_cases c' : v < 0
    · exact ⟨-1, by simp [c, h3, c'], by omega, by omega⟩
    · exact ⟨v, by simp [c, h3, c'], by omega, fun h => ⟨by omega, h5 h⟩⟩

theorem w_toZone_eq {z : MZone} (h : z.sm) : w_toZone z = some z := by
  unfold w_toZone; rw [w_toRecordS_eq (Nat.le_trans h.2.1 (by decide))]; rfl

def Quest.sm (q : Quest) : Prop := q.name.size ≤ 1048576

theorem w_szQuest_p {q : Quest} {n : Int} (hq : q.ok) (hn : 0 ≤ n ∧ n ≤ 1048576) : ∃ v, w_szQuest q n = some v ∧ v ≤ n ∧ (0 ≤ v → q.sm) := by
  obtain ⟨h1, -⟩ := hq
  unfold w_szQuest Quest.sm
  rw [grd_pos (by simp only [i64]; omega)]
  by_cases c1 : n - (q.name.size : Int) < 0
  · exact ⟨-1, by simp [c1], by omega, by omega⟩
  · exact ⟨_, by simp only [c1, decide_false, cond_false]; rfl, by omega, by omega⟩

def MMsg.sm (m : MMsg) : Prop := m.q.sm ∧ smL m.an ∧ smL m.au ∧ smL m.ad

theorem w_szMsg_p {m : MMsg} {n : Int} (hm : m.ok) (hn : 0 ≤ n ∧ n ≤ 1048576) : ∃ v, w_szMsg m n = some v ∧ v ≤ n ∧ (0 ≤ v → m.sm) := by
  obtain ⟨-, -, h3, h4, h5, h6⟩ := hm
  unfold w_szMsg
  obtain ⟨a, a1, a2, a3⟩ := w_szQuest_p h3 hn
  by_cases c : a < 0
  · exact ⟨-1, by simp [a1, c], by omega, by omega⟩
  obtain ⟨b, b1, b2, b3⟩ := w_szRecordS_p h4 (n := a) (by omega)
  by_cases c' : b < 0
  · exact ⟨-1, by simp [a1, c, b1, c'], by omega, by omega⟩
  obtain ⟨d, d1, d2, d3⟩ := w_szRecordS_p h5 (n := b) (by omega)
  by_cases c2 : d < 0
  · exact ⟨-1, by simp [a1, c, b1, c', d1, c2], by omega, by omega⟩
  obtain ⟨e, e1, e2, e3⟩ := w_szRecordS_p h6 (n := d) (by omega)
  by_cases c3 : e < 0
  · exact ⟨-1, by simp [a1, c, b1, c', d1, c2, e1, c3], by omega, by omega⟩
  · exact ⟨e, by simp [a1, c, b1, c', d1, c2, e1, c3], by omega, fun _ => ⟨a3 (by omega), b3 (by omega), d3 (by omega), e3 (by omega)⟩⟩

theorem w_toMsg_eq {m : MMsg} (h : m.sm) : w_toMsg m = some m := by
  unfold w_toMsg; simp [w_toQuest_eq, w_toRecordS_eq (Nat.le_trans h.2.1.1 (by decide)), w_toRecordS_eq (Nat.le_trans h.2.2.1.1 (by decide)), w_toRecordS_eq (Nat.le_trans h.2.2.2.1 (by decide))]

theorem setOf_sm {l : List Rec} (h : smL l) (nm : ByteArray) (k : Int) : smL (setOf l nm k) := ⟨Nat.le_trans (setOf_len l nm k) h.1, fun r hr => h.2 r ((List.mem_filter.1 hr).1)⟩

theorem i_SetOf_eq {l : List Rec} {nm : ByteArray} {k : Int} (h : smL l) : i_SetOf l nm k = some (setOf l nm k) := by
  unfold i_SetOf; rw [i_SetOf_l0_eq _ _ _ _ _ (by have := h.1; simp; omega)]; rfl

theorem s_SetOf_eq {l : List Rec} {nm : ByteArray} {k : Int} (h : smL l) : s_SetOf l nm k = some (setOf l nm k) := by
  unfold s_SetOf; rw [s_SetOf_l0_eq _ _ _ _ _ (by have := h.1; simp; omega)]; rfl

def mkB (l : List UInt8) : ByteArray := ⟨l.toArray⟩

def bts (s : ByteArray) : List UInt8 := s.data.toList

theorem mkB_bts (s : ByteArray) : mkB (bts s) = s := rfl

theorem bts_len (s : ByteArray) : (bts s).length = s.size := rfl

theorem bts_inj {a b : ByteArray} : bts a = bts b ↔ a = b := ⟨fun h => by rw [← mkB_bts a, ← mkB_bts b, h], fun h => by rw [h]⟩

theorem bts_nil_iff (s : ByteArray) : s = ⟨#[]⟩ ↔ bts s = [] := ⟨fun h => by subst h; rfl, fun h => bts_inj.1 (by rw [h]; rfl)⟩

theorem bts_extract (s : ByteArray) (a b : Nat) : bts (s.extract a b) = ((bts s).drop a).take (b - a) := by
  unfold bts
  rw [ByteArray.data_extract, Array.toList_extract, List.extract_eq_take_drop]

theorem extract_mkB (s : ByteArray) (a b : Nat) : s.extract a b = mkB (((bts s).drop a).take (b - a)) := by
  rw [← mkB_bts (s.extract a b), bts_extract]

theorem sidx_nat {s : ByteArray} {n : Nat} {b : UInt8} (h : (bts s)[n]? = some b) : sidx s (n : Int) = some (b.toNat : Int) := by
  obtain ⟨h1, h2⟩ := List.getElem?_eq_some_iff.1 h
  have h3 : n < s.size := h1
  unfold sidx
  rw [dif_pos ⟨by omega, by simpa using h3⟩]
  subst h2
  rfl

/-- The parts of bytes between the dots. -/
def segs : List UInt8 → List UInt8 → List (List UInt8)
  | cur, [] => [cur]
  | cur, b :: l => if b = 46 then cur :: segs [] l else segs (cur ++ [b]) l

def labels (s : ByteArray) : List ByteArray := if bts s = [] then [] else (segs [] (bts s)).map mkB

theorem segs_len : ∀ (l cur : List UInt8), (segs cur l).length ≤ l.length + 1
  | [], cur => by simp [segs]
  | b :: l, cur => by
    unfold segs
    split
    · have := segs_len l []; simp; omega
    · have := segs_len l (cur ++ [b]); simp; omega

theorem labels_len (s : ByteArray) : (labels s).length ≤ s.size + 1 := by
  unfold labels
  split
  · simp
  · have := segs_len (bts s) []
    rw [bts_len] at this
    simpa using this

theorem u8_eq46 (b : UInt8) : ((b.toNat : Int) = 46) ↔ b = 46 := by
  constructor
  · intro h
    have : b.toNat = 46 := by omega
    exact UInt8.toNat_inj.1 this
  · intro h; subst h; rfl

/-- The loop of the reference's Labels: from the place i on, the part having begun at the place f. -/
theorem s_Labels_l0_eq (s : ByteArray) (hs : s.size ≤ 1048576) (hne : s ≠ ⟨#[]⟩) : ∀ (k : Nat) (i f fl : Nat) (out : List ByteArray), s.size - i = k → f ≤ i → i ≤ s.size → out.length ≤ f → k + 1 < fl →
    s_Labels_l0 s fl out (f : Int) (i : Int) = some (out ++ (segs (((bts s).drop f).take (i - f)) ((bts s).drop i)).map mkB)
  | 0, i, f, fl, out, hk, hfi, hi, ho, hfl => by
    obtain ⟨fl, rfl⟩ : ∃ q, fl = q + 1 := ⟨fl - 1, by omega⟩
    obtain ⟨fl, rfl⟩ : ∃ q, fl = q + 1 := ⟨fl - 1, by omega⟩
    have hie : i = s.size := by omega
    rw [s_Labels_l0]
    have e1 : (bts s).drop i = [] := List.drop_eq_nil_of_le (by rw [bts_len]; omega)
    rw [e1]
    simp only [segs, List.map_cons, List.map_nil]
    have c1 : decide ((i : Int) ≤ (s.size : Int)) = true := by simpa using hi
    have c2 : (!decide (s = (⟨#[]⟩ : ByteArray))) = true := by simpa using hne
    rw [c1, c2, cond_true, s_Labels_j1, cond_true]
    have c3 : decide ((i : Int) = (s.size : Int)) = true := by simp [hie]
    rw [c3, cond_true, s_Labels_j2, cond_true, grd_pos (by omega), grd_pos (by simp; omega), grd_pos (by simp only [i64]; omega), grd_pos (by simp only [i64]; omega), s_Labels_l0]
    have c4 : decide ((i : Int) + 1 ≤ (s.size : Int)) = false := by simp; omega
    rw [c4, cond_false, s_Labels_j1, cond_false, extract_mkB]
    simp
  | k + 1, i, f, fl, out, hk, hfi, hi, ho, hfl => by
    obtain ⟨fl, rfl⟩ : ∃ q, fl = q + 1 := ⟨fl - 1, by omega⟩
    have hlt : i < (bts s).length := by rw [bts_len]; omega
    rw [s_Labels_l0]
    have c1 : decide ((i : Int) ≤ (s.size : Int)) = true := by simpa using hi
    have c2 : (!decide (s = (⟨#[]⟩ : ByteArray))) = true := by simpa using hne
    rw [c1, c2, cond_true, s_Labels_j1, cond_true]
    have c3 : decide ((i : Int) = (s.size : Int)) = false := by simp; omega
    have hb : (bts s)[i]? = some (bts s)[i] := List.getElem?_eq_getElem hlt
    rw [c3, cond_false, sidx_nat hb, bnd1_mk, List.drop_eq_getElem_cons hlt, segs]
    have e2 : ((i : Int) + 1) = ((i + 1 : Nat) : Int) := by omega
    by_cases c : (bts s)[i] = 46
    · rw [if_pos c]
      have c5 : decide ((((bts s)[i]).toNat : Int) = 46) = true := by simpa using (u8_eq46 _).2 c
      rw [c5, s_Labels_j2, cond_true, grd_pos (by omega), grd_pos (by simp; omega), grd_pos (by simp only [i64]; omega), grd_pos (by simp only [i64]; omega), e2,
        s_Labels_l0_eq s hs hne k (i + 1) (i + 1) fl _ (by omega) (by omega) (by omega) (by simp; omega) (by omega), extract_mkB]
      simp
    · rw [if_neg c]
      have c5 : decide ((((bts s)[i]).toNat : Int) = 46) = false := by
        have := fun h => c ((u8_eq46 _).1 h)
        simpa using this
      rw [c5, s_Labels_j2, cond_false, grd_pos (by simp only [i64]; omega), e2, s_Labels_l0_eq s hs hne k (i + 1) f fl _ (by omega) (by omega) (by omega) ho (by omega)]
      have e3 : ((bts s).drop f).take (i + 1 - f) = ((bts s).drop f).take (i - f) ++ [(bts s)[i]] := by
        rw [show i + 1 - f = (i - f) + 1 by omega, List.take_add_one]
        congr 1
        rw [List.getElem?_drop, show f + (i - f) = i by omega, hb]
        rfl
      rw [e3]

theorem s_Labels_eq {s : ByteArray} (hs : s.size ≤ 1048576) : s_Labels s = some (labels s) := by
  unfold s_Labels
  by_cases hne : s = ⟨#[]⟩
  · subst hne
    have : fuel0 = 4611686018427387903 + 1 := rfl
    rw [this, s_Labels_l0]
    rfl
  · have h := s_Labels_l0_eq s hs hne s.size 0 0 fuel0 [] (by omega) (by omega) (by omega) (by simp) (by unfold fuel0; omega)
    have e : bts s ≠ [] := fun h => hne ((bts_nil_iff s).2 h)
    simpa [labels, e] using h

theorem indexByte_none : ∀ {l : List UInt8}, Lib.indexByte l 46 = -1 → ∀ cur, segs cur l = [cur ++ l]
  | [], _, cur => by simp [segs]
  | b :: l, h, cur => by
    unfold Lib.indexByte at h
    by_cases c : b = 46
    · subst c; simp at h
    · have hb : (b == (46 : UInt8)) = false := by simpa using c
      rw [hb] at h
      simp only [Bool.false_eq_true, if_false] at h
      by_cases c' : Lib.indexByte l 46 = -1
      · rw [segs, if_neg c, indexByte_none c']; simp
      · have h1 := Lib.indexByte_ge l 46
        rw [if_neg (by simpa using c')] at h
        omega

theorem indexByte_some : ∀ {l : List UInt8} {k : Nat}, Lib.indexByte l 46 = (k : Int) → k < l.length ∧ ∀ cur, segs cur l = (cur ++ l.take k) :: segs [] (l.drop (k + 1))
  | [], k, h => by simp [Lib.indexByte] at h
  | b :: l, k, h => by
    unfold Lib.indexByte at h
    by_cases c : b = 46
    · subst c
      simp at h
      have : k = 0 := by omega
      subst this
      exact ⟨by simp, fun cur => by simp [segs]⟩
    · have hb : (b == (46 : UInt8)) = false := by simpa using c
      rw [hb] at h
      simp only [Bool.false_eq_true, if_false] at h
      have h1 := Lib.indexByte_ge l 46
      by_cases c' : Lib.indexByte l 46 = -1
      · rw [if_pos (by simpa using c')] at h; omega
      · rw [if_neg (by simpa using c')] at h
        obtain ⟨q, rfl⟩ : ∃ q, k = q + 1 := ⟨k - 1, by omega⟩
        obtain ⟨h2, h3⟩ := indexByte_some (l := l) (k := q) (by omega)
        exact ⟨by simp; omega, fun cur => by rw [segs, if_neg c, h3]; simp⟩

theorem count_segs : ∀ (l cur : List UInt8), (segs cur l).length = Lib.countByte l 46 + 1
  | [], cur => by simp [segs, Lib.countByte]
  | b :: l, cur => by
    unfold segs
    by_cases c : b = 46
    · subst c; rw [if_pos rfl, List.length_cons, count_segs l []]; simp [Lib.countByte]
    · rw [if_neg c, count_segs l]; simp [Lib.countByte, c]

theorem dotB : (⟨#[46]⟩ : ByteArray).size = 1 := rfl

theorem dot_sidx : sidx (⟨#[46]⟩ : ByteArray) 0 = some 46 := rfl

theorem strings_Index_dot {s : ByteArray} : strings_Index s ⟨#[46]⟩ = some (if s = ⟨#[46]⟩ then 0 else Lib.indexByte (bts s) 46) := by
  unfold strings_Index internal_stringslite_Index
  rw [dotB]
  by_cases c : s = ⟨#[46]⟩
  · subst c; simp [internal_stringslite_Index_j0]
  · have c' : ¬ ((⟨#[46]⟩ : ByteArray) = s) := fun h => c h.symm
    simp [internal_stringslite_Index_j0, c, c', dotB, dot_sidx, internal_stringslite_IndexByte]
    rfl

theorem strings_Index_dot' {s : ByteArray} : strings_Index s ⟨#[46]⟩ = some (Lib.indexByte (bts s) 46) := by
  rw [strings_Index_dot]
  by_cases c : s = ⟨#[46]⟩
  · subst c; rfl
  · rw [if_neg c]

theorem segs_pos (cur l : List UInt8) : 1 ≤ (segs cur l).length := by rw [count_segs]; omega

theorem idx_cases (l : List UInt8) : Lib.indexByte l 46 = -1 ∨ ∃ k : Nat, Lib.indexByte l 46 = (k : Int) := by
  have h := Lib.indexByte_ge l 46
  rcases Int.lt_or_le (Lib.indexByte l 46) 0 with h1 | h1
  · exact .inl (by omega)
  · exact .inr ⟨(Lib.indexByte l 46).toNat, by omega⟩

theorem genSplit_j1_eq {r : ByteArray} {a : List ByteArray} {i : Nat} (hi : i < a.length) (ha : a.length ≤ 1099511627776) : strings_genSplit_j1 r a (i : Int) = some (a.take i ++ [r]) := by
  unfold strings_genSplit_j1
  rw [idx_nat, List.getElem?_eq_getElem hi, bnd1_mk, grd_pos (by simp only [i64]; omega), grd_pos (by omega)]
  congr 1
  have e : ((i : Int) + 1).toNat - ((0 : Nat) : Int).toNat = i + 1 := by omega
  have e2 : (0 + ((0 : Nat) : Int).toNat) = 0 := by omega
  rw [e, e2, List.drop_zero, Int.toNat_natCast, List.take_add_one, List.take_set_of_le (Nat.le_refl i), List.getElem?_set_self hi]
  rfl

theorem genSplit_l2_eq (p0 : ByteArray) (j : Int) (n : Nat) (hj : (if (p0.size : Int) + 1 < j then (p0.size : Int) + 1 else j) - 1 = (n : Int)) : ∀ (k i fl : Nat) (r : ByteArray) (a : List ByteArray), n - i = k → i ≤ n → k < fl → a.length = n + 1 → a.length ≤ 1099511627776 → (segs [] (bts r)).length = n + 1 - i → r.size ≤ 1048576 →
    strings_genSplit_l2 p0 ⟨#[46]⟩ 0 j fl r a (i : Int) = some (a.take i ++ (segs [] (bts r)).map mkB)
  | 0, i, fl, r, a, hk, hi, hf, ha, ha', hs, hr => by
    obtain ⟨fl, rfl⟩ : ∃ q, fl = q + 1 := ⟨fl - 1, by omega⟩
    have hin : i = n := by omega
    rw [strings_genSplit_l2, hj]
    have c : decide ((i : Int) < (n : Int)) = false := by simp; omega
    rw [c, cond_false, genSplit_j1_eq (by omega) ha']
    rcases idx_cases (bts r) with h | ⟨q, h⟩
    · rw [indexByte_none h]; rfl
    · have h1 := (indexByte_some h).2 []
      have h2 := segs_pos [] ((bts r).drop (q + 1))
      rw [h1] at hs
      simp only [List.length_cons] at hs
      omega
  | k + 1, i, fl, r, a, hk, hi, hf, ha, ha', hs, hr => by
    obtain ⟨fl, rfl⟩ : ∃ q, fl = q + 1 := ⟨fl - 1, by omega⟩
    rw [strings_genSplit_l2, hj]
    have c : decide ((i : Int) < (n : Int)) = true := by simp; omega
    rw [c, cond_true, strings_Index_dot', bnd1_mk]
    rcases idx_cases (bts r) with h | ⟨q, h⟩
    · rw [indexByte_none h] at hs
      simp at hs
      omega
    · obtain ⟨h1, h2⟩ := indexByte_some h
      have h2 := h2 []
      rw [bts_len] at h1
      have hi' : i < a.length := by omega
      rw [h, dotB]
      have c' : decide ((q : Int) < 0) = false := by simp
      have e1 : ((i : Int) + 1) = ((i + 1 : Nat) : Int) := by omega
      rw [c', cond_false, grd_pos (by simp only [i64]; omega), grd_pos (by omega), idx_nat, List.getElem?_eq_getElem hi', bnd1_mk, grd_pos (by simp only [i64]; omega), grd_pos (by omega), grd_pos (by simp only [i64]; omega), e1]
      have e2 : bts (r.extract ((q : Int) + ((1 : Nat) : Int)).toNat (r.size : Int).toNat) = (bts r).drop (q + 1) := by
        rw [bts_extract]
        have e3 : ((q : Int) + ((1 : Nat) : Int)).toNat = q + 1 := by omega
        rw [e3, List.take_of_length_le (by rw [List.length_drop, bts_len]; omega)]
      rw [h2, List.length_cons] at hs
      rw [genSplit_l2_eq p0 j n hj k (i + 1) fl _ _ (by omega) (by omega) (by omega) (by simp [ha]) (by simp [ha']) (by rw [e2]; omega) (by rw [ByteArray.size_extract]; omega), e2, h2]
      congr 1
      rw [Int.toNat_natCast, List.take_add_one, List.take_set_of_le (Nat.le_refl i), List.getElem?_set_self hi', extract_mkB]
      have e4 : ((q : Int) + 0).toNat - ((0 : Nat) : Int).toNat = q := by omega
      rw [e4]
      simp

theorem strings_Count_dot {s : ByteArray} : strings_Count s ⟨#[46]⟩ = some ((Lib.countByte (bts s) 46 : Nat) : Int) := by
  unfold strings_Count
  have c1 : decide (((⟨#[46]⟩ : ByteArray).size : Int) = 0) = false := by rw [dotB]; decide
  have c2 : decide (((⟨#[46]⟩ : ByteArray).size : Int) = 1) = true := by rw [dotB]; decide
  have h46 : (46 : Int).toNat.toUInt8 = 46 := by decide
  rw [c1, cond_false, c2, cond_true, dot_sidx, bnd1_mk, h46]
  rfl

theorem i_Labels_eq {s : ByteArray} (hs : s.size ≤ 1048576) : i_Labels s = some (labels s) := by
  unfold i_Labels
  by_cases hne : s = ⟨#[]⟩
  · subst hne
    have e : bts (⟨#[]⟩ : ByteArray) = [] := rfl
    simp [labels, e]
  · have e : bts s ≠ [] := fun h => hne ((bts_nil_iff s).2 h)
    have hne' : ¬ ((⟨#[46]⟩ : ByteArray) = ⟨#[]⟩) := by decide
    have hc := count_segs (bts s) []
    have hl := segs_len (bts s) []
    rw [bts_len] at hl
    have e0 := strings_Count_dot (s := s)
    have hjj : (if (s.size : Int) + 1 < ((Lib.countByte (bts s) 46 : Nat) : Int) + 1 then (s.size : Int) + 1 else ((Lib.countByte (bts s) 46 : Nat) : Int) + 1) = ((Lib.countByte (bts s) 46 : Nat) : Int) + 1 := by rw [if_neg (by omega)]
    have hloop := genSplit_l2_eq s (((Lib.countByte (bts s) 46 : Nat) : Int) + 1) (Lib.countByte (bts s) 46) (by rw [hjj]; omega) (Lib.countByte (bts s) 46) 0 fuel0 s (List.replicate (((Lib.countByte (bts s) 46 : Nat) : Int) + 1).toNat ⟨#[]⟩) (by omega) (by omega) (by unfold fuel0; omega) (by simp) (by simp; omega) (by omega) hs
    have g0 : decide ((-1 : Int) = 0) = false := by decide
    have g1 : decide ((⟨#[46]⟩ : ByteArray) = ⟨#[]⟩) = false := decide_eq_false hne'
    have g2 : decide ((-1 : Int) < 0) = true := by decide
    rw [decide_eq_false hne, cond_false, strings_Split, strings_genSplit, g0, g1, g2, cond_false, cond_false, cond_true, e0, bnd1_mk, grd_pos (by simp only [i64]; omega), strings_genSplit_j0, hjj, grd_pos (by simp only [i64]; omega), grd_pos (by omega), grd_pos (by simp only [i64]; omega)]
    rw [Int.natCast_zero] at hloop
    rw [hloop, bnd1_mk, bnd1_mk]
    unfold labels
    rw [if_neg e, List.take_zero, List.nil_append]

theorem idx_sub {α : Type} {l : List α} {n : Nat} (h : n ≤ l.length) : idx l ((l.length : Int) - (n : Int)) = l[l.length - n]? := by
  have e : (l.length : Int) - (n : Int) = ((l.length - n : Nat) : Int) := by omega
  rw [e, idx_nat]

def under (a b : ByteArray) : Bool := decide ((labels b).length ≤ (labels a).length) && decide ((labels a).drop ((labels a).length - (labels b).length) = labels b)

theorem slices_Equal_string_l0_eq : ∀ (t : List ByteArray) (pre q : List ByteArray), t.length = q.length → slices_Equal_string_l0 (pre ++ q) t pre.length = some (decide (t = q))
  | [], pre, q, h => by cases q with | nil => rfl | cons a b => simp at h
  | x :: t, pre, q, h => by
    cases q with
    | nil => simp at h
    | cons y q =>
      rw [slices_Equal_string_l0]
      have := slices_Equal_string_l0_eq t (pre ++ [y]) q (by simpa using h)
      simp only [idx_nat]
      simp only [List.length_append, List.length_singleton, List.append_assoc, List.singleton_append] at this
      by_cases c : x = y <;> simp [c, this]

theorem slices_Equal_string_eq {a b : List ByteArray} : slices_Equal_string a b = some (decide (a = b)) := by
  unfold slices_Equal_string
  by_cases c : a.length = b.length
  · have := slices_Equal_string_l0_eq a [] b c
    simpa [c] using this
  · have c' : a ≠ b := fun h => c (by rw [h])
    have c2 : ¬ ((a.length : Int) = (b.length : Int)) := by omega
    simp [c2, c']

theorem i_Under_eq {a b : ByteArray} (ha : a.size ≤ 1048576) (hb : b.size ≤ 1048576) : i_Under a b = some (under a b) := by
  unfold i_Under
  have la := labels_len a
  have lb := labels_len b
  rw [i_Labels_eq ha, i_Labels_eq hb, bnd1_mk, bnd1_mk]
  unfold under
  by_cases c : (labels b).length ≤ (labels a).length
  · have c' : decide (((labels b).length : Int) ≤ ((labels a).length : Int)) = true := by simpa using c
    rw [c', cond_true, grd_pos (by simp only [i64]; omega), grd_pos (by omega), slices_Equal_string_eq, bnd1_mk]
    have e1 : (((labels a).length : Int) - ((labels b).length : Int)).toNat = (labels a).length - (labels b).length := by omega
    rw [e1, List.take_of_length_le (by simp)]
    simp [c]
  · have c' : decide (((labels b).length : Int) ≤ ((labels a).length : Int)) = false := by simp; omega
    rw [c', cond_false]
    simp [c]

/-- The loop of the reference's Under: the last i - 1 parts are alike. -/
theorem s_Under_l0_eq (x y : List ByteArray) (hx : x.length ≤ 2097152) (hl : y.length ≤ x.length) : ∀ (k i fl : Nat), y.length + 1 - i = k → 1 ≤ i → i ≤ y.length + 1 → k < fl → x.drop (x.length - (i - 1)) = y.drop (y.length - (i - 1)) →
    s_Under_l0 x y fl (i : Int) = some (decide (x.drop (x.length - y.length) = y))
  | 0, i, fl, hk, h1, hi, hf, hd => by
    obtain ⟨fl, rfl⟩ : ∃ q, fl = q + 1 := ⟨fl - 1, by omega⟩
    rw [s_Under_l0]
    have c : decide ((i : Int) ≤ (y.length : Int)) = false := by simp; omega
    have e : i - 1 = y.length := by omega
    rw [e, Nat.sub_self, List.drop_zero] at hd
    rw [c, cond_false, decide_eq_true hd]
  | k + 1, i, fl, hk, h1, hi, hf, hd => by
    obtain ⟨fl, rfl⟩ : ∃ q, fl = q + 1 := ⟨fl - 1, by omega⟩
    rw [s_Under_l0]
    have c : decide ((i : Int) ≤ (y.length : Int)) = true := by simp; omega
    have hx' : x.length - i < x.length := by omega
    have hy' : y.length - i < y.length := by omega
    rw [c, cond_true, grd_pos (by simp only [i64]; omega), idx_sub (by omega), List.getElem?_eq_getElem hx', bnd1_mk, grd_pos (by simp only [i64]; omega), idx_sub (by omega), List.getElem?_eq_getElem hy', bnd1_mk]
    have ex : x.drop (x.length - i) = x[x.length - i] :: x.drop (x.length - (i - 1)) := by
      rw [List.drop_eq_getElem_cons hx', show x.length - i + 1 = x.length - (i - 1) by omega]
    have ey : y.drop (y.length - i) = y[y.length - i] :: y.drop (y.length - (i - 1)) := by
      rw [List.drop_eq_getElem_cons hy', show y.length - i + 1 = y.length - (i - 1) by omega]
    by_cases c2 : x[x.length - i] = y[y.length - i]
    · have e1 : ((i : Int) + 1) = ((i + 1 : Nat) : Int) := by omega
      rw [decide_eq_true c2, Bool.not_true, cond_false, grd_pos (by simp only [i64]; omega), e1, s_Under_l0_eq x y hx hl k (i + 1) fl (by omega) (by omega) (by omega) (by omega) (by rw [Nat.add_sub_cancel, ex, ey, c2, hd])]
    · rw [decide_eq_false c2, Bool.not_false, cond_true]
      have : ¬ (x.drop (x.length - y.length) = y) := fun h => c2 (by
        have h2 : (x.drop (x.length - y.length)).drop (y.length - i) = y.drop (y.length - i) := by rw [h]
        rw [List.drop_drop, show x.length - y.length + (y.length - i) = x.length - i by omega, ex, ey] at h2
        exact (List.cons.inj h2).1)
      rw [decide_eq_false this]

theorem s_Under_eq {a b : ByteArray} (ha : a.size ≤ 1048576) (hb : b.size ≤ 1048576) : s_Under a b = some (under a b) := by
  unfold s_Under
  have la := labels_len a
  have lb := labels_len b
  rw [s_Labels_eq ha, s_Labels_eq hb, bnd1_mk, bnd1_mk]
  unfold under
  by_cases c : (labels b).length ≤ (labels a).length
  · have c' : decide (((labels a).length : Int) < ((labels b).length : Int)) = false := by simp; omega
    have := s_Under_l0_eq (labels a) (labels b) (by omega) c (labels b).length 1 fuel0 (by omega) (by omega) (by omega) (by unfold fuel0; omega) (by simp)
    rw [c', cond_false]
    rw [show ((1 : Nat) : Int) = 1 from rfl] at this
    rw [this]
    simp [c]
  · have c' : decide (((labels a).length : Int) < ((labels b).length : Int)) = true := by simp; omega
    rw [c', cond_true]
    simp [c]

theorem slices_IndexFunc_Record_l0_eq {g : Rec → Option Bool} {p : Rec → Bool} : ∀ (l : List Rec) (i : Nat), (∀ r, r ∈ l → g r = some (p r)) → ∃ v, slices_IndexFunc_Record_l0 g l i = some v ∧ decide (0 ≤ v) = l.any p
  | [], i, _ => ⟨-1, rfl, rfl⟩
  | r :: l, i, h => by
    rw [slices_IndexFunc_Record_l0, h r (.head _), bnd1_mk]
    cases c : p r with
    | true => exact ⟨i, rfl, by simp [c]⟩
    | false =>
      obtain ⟨v, h1, h2⟩ := slices_IndexFunc_Record_l0_eq l (i + 1) fun q hq => h q (.tail _ hq)
      exact ⟨v, h1, by simp [c, h2]⟩

theorem slices_ContainsFunc_Record_eq {g : Rec → Option Bool} {p : Rec → Bool} {l : List Rec} (h : ∀ r, r ∈ l → g r = some (p r)) : slices_ContainsFunc_Record l g = some (l.any p) := by
  obtain ⟨v, h1, h2⟩ := slices_IndexFunc_Record_l0_eq l 0 h
  unfold slices_ContainsFunc_Record slices_IndexFunc_Record
  rw [h1, bnd1_mk, h2]

theorem i_Exists_eq {z : MZone} {s : ByteArray} (hz : smL z.l) (hs : s.size ≤ 1048576) : i_Exists z s = some (z.l.any fun r => under r.name s) := by
  unfold i_Exists
  rw [slices_ContainsFunc_Record_eq (p := fun r => under r.name s) fun r hr => by unfold i_Exists_1; rw [i_Under_eq (hz.2 r hr).1 hs]; rfl]
  rfl

theorem s_Exists_l0_eq {s : ByteArray} (hs : s.size ≤ 1048576) : ∀ (l : List Rec) (i : Nat), (∀ r, r ∈ l → r.sm) → s_Exists_l0 s l i = some (l.any fun r => under r.name s)
  | [], i, _ => rfl
  | r :: l, i, h => by
    rw [s_Exists_l0, s_Under_eq (h r (.head _)).1 hs, bnd1_mk, s_Exists_l0_eq hs l (i + 1) fun q hq => h q (.tail _ hq)]
    cases c : under r.name s <;> simp [c]

theorem s_Exists_eq {z : MZone} {s : ByteArray} (hz : smL z.l) (hs : s.size ≤ 1048576) : s_Exists z s = some (z.l.any fun r => under r.name s) := s_Exists_l0_eq hs _ _ hz.2

def hasS (s : ByteArray) (l : List ByteArray) : Bool := l.any fun x => decide (x = s)

theorem s_l9Has_l0_eq {s : ByteArray} : ∀ (l : List ByteArray) (i : Nat), s_l9Has_l0 s l i = some (hasS s l)
  | [], i => rfl
  | x :: l, i => by
    rw [s_l9Has_l0, s_l9Has_l0_eq l (i + 1)]
    by_cases c : x = s <;> simp [c, hasS]

theorem s_l9Has_eq {l : List ByteArray} {s : ByteArray} : s_l9Has l s = some (hasS s l) := s_l9Has_l0_eq _ _

theorem slices_Index_string_l0_eq {s : ByteArray} : ∀ (l : List ByteArray) (i : Nat), ∃ v, slices_Index_string_l0 s l i = some v ∧ decide (0 ≤ v) = hasS s l
  | [], i => ⟨-1, rfl, rfl⟩
  | x :: l, i => by
    rw [slices_Index_string_l0]
    by_cases c : s = x
    · subst c; exact ⟨i, by simp, by simp [hasS]⟩
    · obtain ⟨v, h1, h2⟩ := slices_Index_string_l0_eq (s := s) l (i + 1)
      have c' : ¬ (x = s) := fun h => c h.symm
      exact ⟨v, by simp [c, h1], by rw [h2]; simp [hasS, c']⟩

theorem slices_Contains_string_eq {l : List ByteArray} {s : ByteArray} : slices_Contains_string l s = some (hasS s l) := by
  obtain ⟨v, h1, h2⟩ := slices_Index_string_l0_eq (s := s) l 0
  unfold slices_Contains_string slices_Index_string
  rw [h1, bnd1_mk, h2]

/-- The cuts of a zone, as they are collected. -/
def cutP (apex : ByteArray) (out : List ByteArray) (r : Rec) : Bool := decide (r.ty = 2) && (!decide (r.name = apex) && (under r.name apex && !hasS r.name out))

def cutsL (apex : ByteArray) : List Rec → List ByteArray → List ByteArray
  | [], out => out
  | r :: l, out => bif cutP apex out r then cutsL apex l (out ++ [r.name]) else cutsL apex l out

def cutsOf (z : MZone) : List ByteArray := cutsL z.apex z.l []

theorem cutsL_len (apex : ByteArray) : ∀ (l : List Rec) (out : List ByteArray), (cutsL apex l out).length ≤ out.length + l.length
  | [], out => Nat.le_refl _
  | r :: l, out => by
    unfold cutsL
    have h1 := cutsL_len apex l (out ++ [r.name])
    have h2 := cutsL_len apex l out
    cases cutP apex out r <;> simp at h1 h2 ⊢ <;> omega

theorem cutsL_mem (apex : ByteArray) : ∀ (l : List Rec) (out : List ByteArray) (x : ByteArray), x ∈ cutsL apex l out → x ∈ out ∨ ∃ r, r ∈ l ∧ r.name = x
  | [], out, x, h => .inl h
  | r :: l, out, x, h => by
    unfold cutsL at h
    cases c : cutP apex out r with
    | true =>
      rw [c, cond_true] at h
      rcases cutsL_mem apex l _ x h with h1 | ⟨q, h1, h2⟩
      · rcases List.mem_append.1 h1 with h2 | h2
        · exact .inl h2
        · rw [List.mem_singleton] at h2; exact .inr ⟨r, .head _, h2.symm⟩
      · exact .inr ⟨q, .tail _ h1, h2⟩
    | false =>
      rw [c, cond_false] at h
      rcases cutsL_mem apex l _ x h with h1 | ⟨q, h1, h2⟩
      · exact .inl h1
      · exact .inr ⟨q, .tail _ h1, h2⟩

theorem cutsOf_sm {z : MZone} (h : z.sm) : (cutsOf z).length ≤ 1048576 ∧ ∀ x, x ∈ cutsOf z → x.size ≤ 1048576 := by
  refine ⟨?_, fun x hx => ?_⟩
  · have h1 := cutsL_len z.apex z.l []
    have h2 := h.2.1
    simp only [List.length_nil] at h1
    unfold cutsOf; omega
  · rcases cutsL_mem z.apex z.l [] x hx with h1 | ⟨r, h1, rfl⟩
    · cases h1
    · exact (h.2.2 r h1).1

theorem i_CutsOf_l0_eq {z : MZone} (hz : z.apex.size ≤ 1048576) : ∀ (l : List Rec) (out : List ByteArray) (i : Nat), (∀ r, r ∈ l → r.sm) → out.length + l.length ≤ 1048576 → i_CutsOf_l0 z l out i = some (cutsL z.apex l out)
  | [], out, i, _, _ => rfl
  | r :: l, out, i, h, hl => by
    have hr := (h r (.head _)).1
    simp only [List.length_cons] at hl
    have h1 := i_CutsOf_l0_eq hz l (out ++ [r.name]) (i + 1) (fun q hq => h q (.tail _ hq)) (by simp; omega)
    have h2 := i_CutsOf_l0_eq hz l out (i + 1) (fun q hq => h q (.tail _ hq)) (by omega)
    rw [i_CutsOf_l0, cutsL, cutP]
    by_cases c1 : r.ty = 2 <;> by_cases c2 : r.name = z.apex <;> cases c3 : under r.name z.apex <;> cases c4 : hasS r.name out <;>
      simp [i_CutsOf_j1, c1, c2, h2, i_Under_eq hr hz, c3, slices_Contains_string_eq, c4] <;> first | done | (rw [grd_pos (by omega)]; exact h1) | simp_all [i_Under_eq hr hz, slices_Contains_string_eq]

theorem i_CutsOf_eq {z : MZone} (h : z.sm) : i_CutsOf z = some (cutsOf z) := i_CutsOf_l0_eq h.1 _ _ _ h.2.2 (by simpa using h.2.1)

theorem s_CutsOf_l0_eq {z : MZone} (hz : z.apex.size ≤ 1048576) : ∀ (l : List Rec) (out : List ByteArray) (i : Nat), (∀ r, r ∈ l → r.sm) → out.length + l.length ≤ 1048576 → s_CutsOf_l0 z l out i = some (cutsL z.apex l out)
  | [], out, i, _, _ => rfl
  | r :: l, out, i, h, hl => by
    have hr := (h r (.head _)).1
    simp only [List.length_cons] at hl
    have h1 := s_CutsOf_l0_eq hz l (out ++ [r.name]) (i + 1) (fun q hq => h q (.tail _ hq)) (by simp; omega)
    have h2 := s_CutsOf_l0_eq hz l out (i + 1) (fun q hq => h q (.tail _ hq)) (by omega)
    rw [s_CutsOf_l0, cutsL, cutP]
    by_cases c1 : r.ty = 2 <;> by_cases c2 : r.name = z.apex <;> cases c3 : under r.name z.apex <;> cases c4 : hasS r.name out <;>
      simp [s_CutsOf_j1, c1, c2, h2, s_Under_eq hr hz, c3, s_l9Has_eq, c4] <;> first | done | (rw [grd_pos (by omega)]; exact h1) | simp_all [s_Under_eq hr hz, s_l9Has_eq]

theorem s_CutsOf_eq {z : MZone} (h : z.sm) : s_CutsOf z = some (cutsOf z) := s_CutsOf_l0_eq h.1 _ _ _ h.2.2 (by simpa using h.2.1)

def cutOf (z : MZone) (s : ByteArray) : ByteArray × Bool := match (cutsOf z).find? (under s) with | some c => (c, true) | none => (⟨#[]⟩, false)

theorem i_CutOf_l0_eq {s : ByteArray} (hs : s.size ≤ 1048576) : ∀ (l : List ByteArray) (i : Nat), (∀ x, x ∈ l → x.size ≤ 1048576) → i_CutOf_l0 s l i = some (match l.find? (under s) with | some c => (c, true) | none => (⟨#[]⟩, false))
  | [], i, _ => rfl
  | x :: l, i, h => by
    rw [i_CutOf_l0, i_Under_eq hs (h x (.head _)), bnd1_mk, i_CutOf_l0_eq hs l (i + 1) fun y hy => h y (.tail _ hy)]
    cases c : under s x <;> simp [c]

theorem s_CutOf_l0_eq {s : ByteArray} (hs : s.size ≤ 1048576) : ∀ (l : List ByteArray) (i : Nat), (∀ x, x ∈ l → x.size ≤ 1048576) → s_CutOf_l0 s l i = some (match l.find? (under s) with | some c => (c, true) | none => (⟨#[]⟩, false))
  | [], i, _ => rfl
  | x :: l, i, h => by
    rw [s_CutOf_l0, s_Under_eq hs (h x (.head _)), bnd1_mk, s_CutOf_l0_eq hs l (i + 1) fun y hy => h y (.tail _ hy)]
    cases c : under s x <;> simp [c]

theorem i_CutOf_eq {z : MZone} {s : ByteArray} (h : z.sm) (hs : s.size ≤ 1048576) : i_CutOf z s = some (cutOf z s) := by
  unfold i_CutOf; rw [i_CutsOf_eq h, bnd1_mk, i_CutOf_l0_eq hs _ _ (cutsOf_sm h).2]; rfl

theorem s_CutOf_eq {z : MZone} {s : ByteArray} (h : z.sm) (hs : s.size ≤ 1048576) : s_CutOf z s = some (cutOf z s) := by
  unfold s_CutOf; rw [s_CutsOf_eq h, bnd1_mk, s_CutOf_l0_eq hs _ _ (cutsOf_sm h).2]; rfl

theorem s_Least_eq {a b : Int} : s_Least a b = some (if b < a then b else a) := by
  unfold s_Least
  by_cases c : b < a <;> simp [c]

theorem w_markText_l0_some : ∀ (k fl : Nat) (n : Int) (s : ByteArray), 0 ≤ n → n.toNat ≤ k → k < fl → (s.size : Int) + n ≤ 4611686018427387904 → ∃ t, w_markText_l0 fl n s = some t
  | k, fl, n, s, h0, hk, hf, hs => by
    obtain ⟨fl, rfl⟩ : ∃ q, fl = q + 1 := ⟨fl - 1, by omega⟩
    rw [w_markText_l0]
    have e1 : (⟨#[109]⟩ : ByteArray).size = 1 := rfl
    by_cases c : 0 < n
    · have e2 : ∀ x, (strOfNums [x]).size = 1 := fun _ => rfl
      have e3 : Int.tmod n 10 = n % 10 := Int.tmod_eq_emod_of_nonneg h0
      have e4 : Int.tdiv n 10 = n / 10 := Int.tdiv_eq_ediv_of_nonneg h0
      rw [decide_eq_true c, cond_true, grd_pos (by simp only [i64]; omega), grd_pos (by rw [e2]; omega), e4, wrap_id (by omega)]
      cases k with
      | zero => omega
      | succ k => exact w_markText_l0_some k fl (n / 10) _ (by omega) (by omega) (by omega) (by rw [ByteArray.size_append, e2]; omega)
    · rw [decide_eq_false c, cond_false, grd_pos (by rw [e1]; omega)]
      exact ⟨_, rfl⟩

def mkT (n : Int) : ByteArray := (w_markText n).getD ⟨#[]⟩

theorem w_markText_eq {n : Int} (h : n ≤ 4611686018427387900) : w_markText n = some (mkT n) := by
  have : ∃ t, w_markText n = some t := by
    unfold w_markText
    by_cases c : n ≤ 0
    · rw [decide_eq_true c]; exact ⟨_, rfl⟩
    · rw [decide_eq_false c, cond_false]
      exact w_markText_l0_some n.toNat fuel0 n _ (by omega) (Nat.le_refl _) (by unfold fuel0; omega) (by have : (⟨#[]⟩ : ByteArray).size = 0 := rfl; rw [this]; omega)
  obtain ⟨t, h1⟩ := this
  unfold mkT
  rw [h1]; rfl

theorem set_app {α : Type} (pre t : List α) (x y : α) : (pre ++ x :: t).set pre.length y = pre ++ y :: t := by simp

theorem get_app {α : Type} (pre t : List α) (x : α) : (pre ++ x :: t)[pre.length]? = some x := by simp

def mkR (n : Int) : Rec := ⟨mkT n, n + 1, n + 1 + 1, n + 1 + 1 + 1, mkT (n + 1 + 1 + 1 + 1), mkT (n + 1 + 1 + 1 + 1 + 1)⟩

def mkL : List Rec → Int → List Rec
  | [], _ => []
  | _ :: l, n => mkR n :: mkL l (n + 1 + 1 + 1 + 1 + 1 + 1)

theorem mkL_len : ∀ (l : List Rec) (n : Int), (mkL l n).length = l.length
  | [], _ => rfl
  | _ :: l, n => by simp [mkL, mkL_len l]

theorem w_markRecordS_l0_eq : ∀ (t pre : List Rec) (n : Int) (fl : Nat), t.length < fl → 0 ≤ n → n + 6 * t.length ≤ 4611686018427387800 → pre.length + t.length ≤ 1099511627776 →
    w_markRecordS_l0 fl (pre ++ t) n (pre.length : Int) = some (n + 6 * t.length, pre ++ mkL t n)
  | [], pre, n, fl, hf, h0, hn, hl => by
    obtain ⟨fl, rfl⟩ : ∃ q, fl = q + 1 := ⟨fl - 1, by simp at hf; omega⟩
    rw [w_markRecordS_l0]
    simp [mkL]
  | r :: t, pre, n, fl, hf, h0, hn, hl => by
    simp only [List.length_cons] at hf hn hl
    obtain ⟨fl, rfl⟩ : ∃ q, fl = q + 1 := ⟨fl - 1, by omega⟩
    have c : decide ((pre.length : Int) < ((pre ++ r :: t).length : Int)) = true := by simp; omega
    have e : ((pre.length : Int) + 1) = (((pre ++ [mkR n]).length : Nat) : Int) := by simp
    rw [w_markRecordS_l0, c, cond_true, w_markText_eq (by omega), bnd1_mk, idx_nat, get_app, bnd1_mk, grd_pos (by simp only [i64]; omega), grd_pos (by simp only [i64]; omega), grd_pos (by simp only [i64]; omega), grd_pos (by simp only [i64]; omega),
      w_markText_eq (by omega), bnd1_mk, grd_pos (by simp only [i64]; omega), w_markText_eq (by omega), bnd1_mk, grd_pos (by simp only [i64]; omega), grd_pos (by simp only [i64]; omega), Int.toNat_natCast]
    simp only [set_app]
    have h := w_markRecordS_l0_eq t (pre ++ [mkR n]) (n + 1 + 1 + 1 + 1 + 1 + 1) fl (by omega) (by omega) (by omega) (by simp; omega)
    rw [List.append_assoc, List.singleton_append] at h
    rw [e]
    unfold mkR at h ⊢
    rw [h, mkL]
    simp only [List.append_assoc, List.singleton_append, List.length_cons]
    congr 2
    omega

theorem w_markRecordS_eq {l : List Rec} {n : Int} (h0 : 0 ≤ n) (hn : n + 6 * l.length ≤ 4611686018427387800) (hl : l.length ≤ 1099511627776) : w_markRecordS l n = some (n + 6 * l.length, mkL l n) := by
  have := w_markRecordS_l0_eq l [] n fuel0 (by unfold fuel0; omega) h0 hn (by simpa using hl)
  simpa [w_markRecordS] using this

theorem w_heldRecordS_l0_eq : ∀ (t : List Rec) (n : Int) (i : Nat), 0 ≤ n → n + 6 * t.length ≤ 4611686018427387800 → w_heldRecordS_l0 (mkL t n) n i = some (n + 6 * t.length)
  | [], n, i, _, _ => by simp [mkL, w_heldRecordS_l0]
  | r :: t, n, i, h0, hn => by
    simp only [List.length_cons] at hn
    have h := w_heldRecordS_l0_eq t (n + 1 + 1 + 1 + 1 + 1 + 1) (i + 1) (by omega) (by omega)
    rw [mkL, w_heldRecordS_l0, w_markText_eq (by omega), bnd1_mk]
    simp only [mkR, decide_true, Bool.not_true, cond_false]
    rw [grd_pos (by simp only [i64]; omega), grd_pos (by simp only [i64]; omega), grd_pos (by simp only [i64]; omega), grd_pos (by simp only [i64]; omega), w_markText_eq (by omega), bnd1_mk]
    simp only [decide_true, Bool.not_true, cond_false]
    rw [grd_pos (by simp only [i64]; omega), w_markText_eq (by omega), bnd1_mk]
    simp only [decide_true, Bool.not_true, cond_false]
    rw [grd_pos (by simp only [i64]; omega), h]
    congr 1
    simp only [List.length_cons]
    omega

theorem w_heldRecordS_eq {l : List Rec} {n : Int} (h0 : 0 ≤ n) (hn : n + 6 * l.length ≤ 4611686018427387800) : w_heldRecordS (mkL l n) n = some (n + 6 * l.length) := w_heldRecordS_l0_eq l n 0 h0 hn

def hostP (out : List ByteArray) (r : Rec) : Bool := decide (r.ty = 2) && !hasS r.host out

def hostsL : List Rec → List ByteArray → List ByteArray
  | [], out => out
  | r :: l, out => bif hostP out r then hostsL l (out ++ [r.host]) else hostsL l out

theorem hostsL_len : ∀ (l : List Rec) (out : List ByteArray), (hostsL l out).length ≤ out.length + l.length
  | [], out => Nat.le_refl _
  | r :: l, out => by
    unfold hostsL
    have h1 := hostsL_len l (out ++ [r.host])
    have h2 := hostsL_len l out
    cases hostP out r <;> simp at h1 h2 ⊢ <;> omega

theorem hostsL_mem : ∀ (l : List Rec) (out : List ByteArray) (x : ByteArray), x ∈ hostsL l out → x ∈ out ∨ ∃ r, r ∈ l ∧ r.host = x
  | [], out, x, h => .inl h
  | r :: l, out, x, h => by
    unfold hostsL at h
    cases c : hostP out r with
    | true =>
      rw [c, cond_true] at h
      rcases hostsL_mem l _ x h with h1 | ⟨q, h1, h2⟩
      · rcases List.mem_append.1 h1 with h2 | h2
        · exact .inl h2
        · rw [List.mem_singleton] at h2; exact .inr ⟨r, .head _, h2.symm⟩
      · exact .inr ⟨q, .tail _ h1, h2⟩
    | false =>
      rw [c, cond_false] at h
      rcases hostsL_mem l _ x h with h1 | ⟨q, h1, h2⟩
      · exact .inl h1
      · exact .inr ⟨q, .tail _ h1, h2⟩

theorem hostsL_sm {l : List Rec} (h : smL l) : (hostsL l []).length ≤ 1048576 ∧ ∀ x, x ∈ hostsL l [] → x.size ≤ 1048576 := by
  refine ⟨?_, fun x hx => ?_⟩
  · have h1 := hostsL_len l []
    have h2 := h.1
    simp only [List.length_nil] at h1
    omega
  · rcases hostsL_mem l [] x hx with h1 | ⟨r, h1, rfl⟩
    · cases h1
    · exact (h.2 r h1).2.1

theorem i_Hosts_l0_eq : ∀ (l : List Rec) (out : List ByteArray) (i : Nat), out.length + l.length ≤ 1048576 → i_Hosts_l0 l out i = some (hostsL l out)
  | [], out, i, _ => rfl
  | r :: l, out, i, hl => by
    simp only [List.length_cons] at hl
    have h1 := i_Hosts_l0_eq l (out ++ [r.host]) (i + 1) (by simp; omega)
    have h2 := i_Hosts_l0_eq l out (i + 1) (by omega)
    rw [i_Hosts_l0, hostsL, hostP, slices_Contains_string_eq, bnd1_mk]
    by_cases c1 : r.ty = 2 <;> cases c4 : hasS r.host out <;> simp [i_Hosts_j1, c1, h2] <;> (rw [grd_pos (by omega)]; exact h1)

theorem s_Hosts_l0_eq : ∀ (l : List Rec) (out : List ByteArray) (i : Nat), out.length + l.length ≤ 1048576 → s_Hosts_l0 l out i = some (hostsL l out)
  | [], out, i, _ => rfl
  | r :: l, out, i, hl => by
    simp only [List.length_cons] at hl
    have h1 := s_Hosts_l0_eq l (out ++ [r.host]) (i + 1) (by simp; omega)
    have h2 := s_Hosts_l0_eq l out (i + 1) (by omega)
    rw [s_Hosts_l0, hostsL, hostP, s_l9Has_eq, bnd1_mk]
    by_cases c1 : r.ty = 2 <;> cases c4 : hasS r.host out <;> simp [s_Hosts_j1, c1, h2] <;> (rw [grd_pos (by omega)]; exact h1)

theorem i_Hosts_eq {l : List Rec} (h : smL l) : i_Hosts l = some (hostsL l []) := i_Hosts_l0_eq _ _ _ (by simpa using h.1)

theorem s_Hosts_eq {l : List Rec} (h : smL l) : s_Hosts l = some (hostsL l []) := s_Hosts_l0_eq _ _ _ (by simpa using h.1)

theorem slices_Clone_Record_eq {l : List Rec} (h : l.length ≤ 1099511627776) : slices_Clone_Record l = some l := by
  unfold slices_Clone_Record
  rw [List.nil_append, grd_pos h]

def glueL (zl : List Rec) (l : List ByteArray) : List Rec := l.flatMap fun h => setOf zl h 1

theorem i_Glue_l0_eq {z : MZone} (hz : smL z.l) : ∀ (l : List ByteArray) (out : List Rec) (i : Nat), out.length + l.length * 1048576 ≤ 1099511627776 → i_Glue_l0 z l out i = some (out ++ glueL z.l l)
  | [], out, i, _ => by simp [i_Glue_l0, glueL]
  | x :: l, out, i, hl => by
    rw [List.length_cons, Nat.add_mul, Nat.one_mul] at hl
    have h2 := setOf_len z.l x 1
    have h3 := hz.1
    have hq : (out ++ setOf z.l x 1).length + l.length * 1048576 ≤ 1099511627776 := by rw [List.length_append]; generalize l.length * 1048576 = Q at hl ⊢; omega
    have e : glueL z.l (x :: l) = setOf z.l x 1 ++ glueL z.l l := by simp [glueL]
    rw [i_Glue_l0, i_SetOf_eq hz, bnd1_mk, grd_pos (Nat.le_trans (Nat.le_add_right _ _) hq), i_Glue_l0_eq hz l _ (i + 1) hq, e, List.append_assoc]

theorem s_Glue_l0_eq {z : MZone} (hz : smL z.l) : ∀ (l : List ByteArray) (out : List Rec) (i : Nat), out.length + l.length * 1048576 ≤ 1099511627776 → s_Glue_l0 z l out i = some (out ++ glueL z.l l)
  | [], out, i, _ => by simp [s_Glue_l0, glueL]
  | x :: l, out, i, hl => by
    rw [List.length_cons, Nat.add_mul, Nat.one_mul] at hl
    have h2 := setOf_len z.l x 1
    have h3 := hz.1
    have hq : (out ++ setOf z.l x 1).length + l.length * 1048576 ≤ 1099511627776 := by rw [List.length_append]; generalize l.length * 1048576 = Q at hl ⊢; omega
    have e : glueL z.l (x :: l) = setOf z.l x 1 ++ glueL z.l l := by simp [glueL]
    rw [s_Glue_l0, s_SetOf_eq hz, bnd1_mk, grd_pos (Nat.le_trans (Nat.le_add_right _ _) hq), s_Glue_l0_eq hz l _ (i + 1) hq, e, List.append_assoc]

theorem i_Glue_eq {z : MZone} {l : List ByteArray} (hz : smL z.l) (hl : l.length ≤ 1048576) : i_Glue z l = some (glueL z.l l) := i_Glue_l0_eq hz l [] 0 (by rw [List.length_nil]; have := Nat.mul_le_mul_right 1048576 hl; omega)

theorem s_Glue_eq {z : MZone} {l : List ByteArray} (hz : smL z.l) (hl : l.length ≤ 1048576) : s_Glue z l = some (glueL z.l l) := s_Glue_l0_eq hz l [] 0 (by rw [List.length_nil]; have := Nat.mul_le_mul_right 1048576 hl; omega)

def kindIn (z : MZone) (q : Quest) : Int :=
  bif !under q.name z.apex then 0 else (bif (cutOf z q.name).2 then 1 else (bif !decide (q.ty = 5) && decide (0 < ((setOf z.l q.name 5).length : Int)) then 2 else (bif decide (0 < ((setOf z.l q.name q.ty).length : Int)) then 3 else (bif z.l.any (fun r => under r.name q.name) then 4 else 5))))

theorem s_KindIn_eq {z : MZone} {q : Quest} (h : z.sm) (hq : q.sm) : s_KindIn z q = some (kindIn z q) := by
  unfold s_KindIn kindIn
  have h2 := s_CutOf_eq h hq
  generalize cutOf z q.name = x at h2
  obtain ⟨x, y⟩ := x
  rw [h2, bnd2_mk, s_Under_eq hq h.1, bnd1_mk, s_SetOf_eq h.2, bnd1_mk]
  unfold s_KindIn_j0
  rw [s_SetOf_eq h.2, bnd1_mk, s_Exists_eq h.2 hq, bnd1_mk]
  cases under q.name z.apex <;> cases y <;> cases decide (q.ty = 5) <;> cases decide (0 < ((setOf z.l q.name 5).length : Int)) <;> cases decide (0 < ((setOf z.l q.name q.ty).length : Int)) <;> cases z.l.any (fun r => under r.name q.name) <;> rfl

theorem i_KindIn_eq {z : MZone} {q : Quest} (h : z.sm) (hq : q.sm) : i_KindIn z q = some (kindIn z q) := by
  unfold i_KindIn kindIn
  have h2 := i_CutOf_eq h hq
  generalize cutOf z q.name = x at h2
  obtain ⟨x, y⟩ := x
  rw [h2, bnd2_mk, i_Under_eq hq h.1, bnd1_mk, i_SetOf_eq h.2, bnd1_mk]
  unfold i_KindIn_j0
  rw [i_SetOf_eq h.2, bnd1_mk, i_Exists_eq h.2 hq, bnd1_mk]
  cases under q.name z.apex <;> cases y <;> cases decide (q.ty = 5) <;> cases decide (0 < ((setOf z.l q.name 5).length : Int)) <;> cases decide (0 < ((setOf z.l q.name q.ty).length : Int)) <;> cases z.l.any (fun r => under r.name q.name) <;> rfl

def answerIn (z : MZone) (q : Quest) : List Rec := bif decide (kindIn z q = 2) then setOf z.l q.name 5 else (bif decide (kindIn z q = 3) then setOf z.l q.name q.ty else [])

theorem s_AnswerIn_eq {z : MZone} {q : Quest} (h : z.sm) (hq : q.sm) : s_AnswerIn z q = some (answerIn z q) := by
  unfold s_AnswerIn answerIn
  rw [s_KindIn_eq h hq, bnd1_mk, s_SetOf_eq h.2, bnd1_mk, s_SetOf_eq h.2, bnd1_mk]
  cases decide (kindIn z q = 2) <;> cases decide (kindIn z q = 3) <;> rfl

theorem i_AnswerIn_eq {z : MZone} {q : Quest} (h : z.sm) (hq : q.sm) : i_AnswerIn z q = some (answerIn z q) := by
  unfold i_AnswerIn answerIn
  rw [i_KindIn_eq h hq, bnd1_mk, i_SetOf_eq h.2, bnd1_mk, i_SetOf_eq h.2, bnd1_mk]
  cases decide (kindIn z q = 2) <;> cases decide (kindIn z q = 3) <;> rfl

theorem smL_nil : smL [] := ⟨Nat.zero_le _, fun r hr => by cases hr⟩

theorem answerIn_sm {z : MZone} (h : z.sm) (q : Quest) : smL (answerIn z q) := by
  unfold answerIn
  cases decide (kindIn z q = 2)
  · cases decide (kindIn z q = 3)
    · exact smL_nil
    · exact setOf_sm h.2 _ _
  · exact setOf_sm h.2 _ _

def moreIn (z : MZone) (q : Quest) : List Rec := bif decide (kindIn z q = 1) then setOf z.l (cutOf z q.name).1 2 else (bif decide (kindIn z q = 4) || decide (kindIn z q = 5) then [first (fun r => decide (r.ty = 6)) z.l] else [])

theorem s_MoreIn_eq {z : MZone} {q : Quest} (h : z.sm) (hq : q.sm) : s_MoreIn z q = some (moreIn z q) := by
  unfold s_MoreIn moreIn s_MoreIn_j0
  have h2 := s_CutOf_eq h hq
  rw [s_KindIn_eq h hq, bnd1_mk]
  generalize kindIn z q = k
  generalize cutOf z q.name = x at h2
  obtain ⟨x, y⟩ := x
  rw [h2, bnd2_mk, s_SetOf_eq h.2, bnd1_mk, s_StartOf_eq, bnd1_mk]
  cases decide (k = 1) <;> cases decide (k = 4) <;> cases decide (k = 5) <;> rfl

theorem i_MoreIn_eq {z : MZone} {q : Quest} (h : z.sm) (hq : q.sm) : i_MoreIn z q = some (moreIn z q) := by
  unfold i_MoreIn moreIn i_MoreIn_j0
  have h2 := i_CutOf_eq h hq
  rw [i_KindIn_eq h hq, bnd1_mk]
  generalize kindIn z q = k
  generalize cutOf z q.name = x at h2
  obtain ⟨x, y⟩ := x
  rw [h2, bnd2_mk, i_SetOf_eq h.2, bnd1_mk, i_StartOf_eq, bnd1_mk]
  cases decide (k = 1) <;> cases decide (k = 4) <;> cases decide (k = 5) <;> rfl

theorem zrec_sm : zrec.sm := ⟨Nat.zero_le _, Nat.zero_le _, Nat.zero_le _⟩

theorem first_sm {p : Rec → Bool} {l : List Rec} (h : smL l) : (first p l).sm := by
  unfold first
  cases c : l.find? p with
  | none => exact zrec_sm
  | some r => exact h.2 r (List.mem_of_find?_eq_some c)

theorem moreIn_sm {z : MZone} (h : z.sm) (q : Quest) : smL (moreIn z q) := by
  unfold moreIn
  cases decide (kindIn z q = 1)
  · cases decide (kindIn z q = 4) || decide (kindIn z q = 5)
    · exact smL_nil
    · exact ⟨by simp, fun r hr => by rw [cond_false, cond_true, List.mem_singleton] at hr; rw [hr]; exact first_sm h.2⟩
  · exact setOf_sm h.2 _ _

def helpIn (z : MZone) (q : Quest) : List Rec := bif !decide (kindIn z q = 1) then [] else glueL z.l (hostsL (moreIn z q) [])

theorem s_HelpIn_eq {z : MZone} {q : Quest} (h : z.sm) (hq : q.sm) : s_HelpIn z q = some (helpIn z q) := by
  unfold s_HelpIn helpIn
  have hm := moreIn_sm h q
  rw [s_KindIn_eq h hq, bnd1_mk, s_MoreIn_eq h hq, bnd1_mk, s_Hosts_eq hm, bnd1_mk, s_Glue_eq h.2 (hostsL_sm hm).1, bnd1_mk]
  cases decide (kindIn z q = 1) <;> rfl

theorem i_HelpIn_eq {z : MZone} {q : Quest} (h : z.sm) (hq : q.sm) : i_HelpIn z q = some (helpIn z q) := by
  unfold i_HelpIn helpIn
  have hm := moreIn_sm h q
  rw [i_KindIn_eq h hq, bnd1_mk, i_MoreIn_eq h hq, bnd1_mk, i_Hosts_eq hm, bnd1_mk, i_Glue_eq h.2 (hostsL_sm hm).1, bnd1_mk]
  cases decide (kindIn z q = 1) <;> rfl

theorem glueL_mem {zl : List Rec} {l : List ByteArray} {r : Rec} (h : r ∈ glueL zl l) : r ∈ zl := by
  unfold glueL at h
  obtain ⟨x, -, hx⟩ := List.mem_flatMap.1 h
  exact (List.mem_filter.1 hx).1

theorem take8 {l : List Rec} : (l.drop ((0 : Nat) : Int).toNat).take ((if 8 < (l.length : Int) then 8 else (l.length : Int)).toNat - ((0 : Nat) : Int).toNat) = l.take 8 := by
  have e : ((0 : Nat) : Int).toNat = 0 := rfl
  rw [e, List.drop_zero, Nat.sub_zero]
  by_cases c : 8 < (l.length : Int)
  · rw [if_pos c]; rfl
  · rw [if_neg c, Int.toNat_natCast, List.take_length, List.take_of_length_le (by omega)]

theorem s_l7Copy_eq {l : List Rec} (h : l.length ≤ 1099511627776) : s_l7Copy l = some l := by
  unfold s_l7Copy; rw [List.nil_append, grd_pos h]

theorem s_l11First_eq {l : List Rec} : s_l11First l = some (l.take 8) := by
  unfold s_l11First
  rw [s_Least_eq]
  simp only [bnd1_mk]
  have e : (if 8 < (l.length : Int) then 8 else (l.length : Int)) = (if (8 : Int) < (l.length : Int) then 8 else (l.length : Int)) := rfl
  rw [take8, grd_pos (by split <;> omega), s_l7Copy_eq (by rw [List.length_take]; omega), bnd1_mk]

theorem i_some_eq {l : List Rec} : i_some l = some (l.take 8) := by
  unfold i_some
  rw [take8, grd_pos (by split <;> omega)]

def reply (m : MMsg) (k : Int) (a : Bool) (x y z : List Rec) : MMsg := MMsg.mk m.id true a false m.want false k m.q x y z

theorem s_ReplyTo_eq {m : MMsg} {k : Int} {a : Bool} {x y z : List Rec} (hx : x.length ≤ 1099511627776) (hy : y.length ≤ 1099511627776) (hz : z.length ≤ 1099511627776) : s_ReplyTo m k a x y z = some (reply m k a x y z) := by
  unfold s_ReplyTo; rw [s_l7Copy_eq hx, bnd1_mk, s_l7Copy_eq hy, bnd1_mk, s_l7Copy_eq hz, bnd1_mk]; rfl

theorem i_ReplyTo_eq {m : MMsg} {k : Int} {a : Bool} {x y z : List Rec} (hx : x.length ≤ 1099511627776) (hy : y.length ≤ 1099511627776) (hz : z.length ≤ 1099511627776) : i_ReplyTo m k a x y z = some (reply m k a x y z) := by
  unfold i_ReplyTo i_copyMsg; simp only [slices_Clone_Record_eq hx, slices_Clone_Record_eq hy, slices_Clone_Record_eq hz, bnd1_mk]; rfl

def serve (z : MZone) (m : MMsg) : MMsg :=
  reply m (bif decide (kindIn z m.q = 0) then 5 else (bif decide (kindIn z m.q = 5) then 3 else 0)) (!decide (kindIn z m.q = 0) && !decide (kindIn z m.q = 1)) ((answerIn z m.q).take 8) ((moreIn z m.q).take 8) ((helpIn z m.q).take 8)

theorem take8_len {l : List Rec} : (l.take 8).length ≤ 8 := by rw [List.length_take]; omega

theorem s_Serve_eq {z : MZone} {m : MMsg} (h : z.sm) (hq : m.q.sm) : s_Serve z m = some (serve z m) := by
  have h8 : ∀ l : List Rec, (l.take 8).length ≤ 1099511627776 := fun l => Nat.le_trans take8_len (by omega)
  unfold s_Serve s_Serve_j0 s_Serve_j1 serve
  rw [s_KindIn_eq h hq, bnd1_mk]
  simp only [s_AnswerIn_eq h hq, s_MoreIn_eq h hq, s_HelpIn_eq h hq, bnd1_mk, s_l11First_eq, s_ReplyTo_eq (h8 _) (h8 _) (h8 _)]
  generalize kindIn z m.q = k
  cases decide (k = 0) <;> cases decide (k = 1) <;> cases decide (k = 5) <;> rfl

theorem i_Serve_eq {z : MZone} {m : MMsg} (h : z.sm) (hq : m.q.sm) : i_Serve z m = some (serve z m) := by
  have h8 : ∀ l : List Rec, (l.take 8).length ≤ 1099511627776 := fun l => Nat.le_trans take8_len (by omega)
  unfold i_Serve i_Serve_j0 serve
  rw [i_KindIn_eq h hq, bnd1_mk]
  simp only [i_AnswerIn_eq h hq, i_MoreIn_eq h hq, i_HelpIn_eq h hq, bnd1_mk, i_some_eq, i_ReplyTo_eq (h8 _) (h8 _) (h8 _)]
  generalize kindIn z m.q = k
  cases decide (k = 0) <;> cases decide (k = 1) <;> cases decide (k = 5) <;> rfl

theorem w_markMsg_at {m : MMsg} {n : Int} (h0 : 0 ≤ n ∧ n ≤ 1099511627776) (h1 : m.an.length ≤ 1048576) (h2 : m.au.length ≤ 1048576) (h3 : m.ad.length ≤ 1048576) :
    w_markMsg m n = some (n + 6 * m.an.length + 6 * m.au.length + 6 * m.ad.length, mkL m.an n, mkL m.au (n + 6 * m.an.length), mkL m.ad (n + 6 * m.an.length + 6 * m.au.length)) := by
  unfold w_markMsg
  rw [w_markRecordS_eq (by omega) (by omega) (by omega), bnd2_mk, grd_pos (mkL_len _ _), w_markRecordS_eq (by omega) (by omega) (by omega), bnd2_mk, grd_pos (mkL_len _ _), w_markRecordS_eq (by omega) (by omega) (by omega), bnd2_mk, grd_pos (mkL_len _ _)]

theorem w_heldMsg_at {m : MMsg} {n : Int} {a b c d e : Bool} {i k : Int} {q : Quest} (h0 : 0 ≤ n ∧ n ≤ 1099511627776) (h1 : m.an.length ≤ 1048576) (h2 : m.au.length ≤ 1048576) (h3 : m.ad.length ≤ 1048576) :
    w_heldMsg (MMsg.mk i a b c d e k q (mkL m.an n) (mkL m.au (n + 6 * m.an.length)) (mkL m.ad (n + 6 * m.an.length + 6 * m.au.length))) n = some (n + 6 * m.an.length + 6 * m.au.length + 6 * m.ad.length) := by
  unfold w_heldMsg
  simp only
  have c1 : ¬ (n + 6 * (m.an.length : Int) < 0) := by omega
  have c2 : ¬ (n + 6 * (m.an.length : Int) + 6 * (m.au.length : Int) < 0) := by omega
  have c3 : ¬ (n + 6 * (m.an.length : Int) + 6 * (m.au.length : Int) + 6 * (m.ad.length : Int) < 0) := by omega
  rw [w_heldRecordS_eq (by omega) (by omega), bnd1_mk, decide_eq_false c1, cond_false, w_heldRecordS_eq (by omega) (by omega), bnd1_mk, decide_eq_false c2, cond_false, w_heldRecordS_eq (by omega) (by omega), bnd1_mk, decide_eq_false c3, cond_false]

theorem fuel_lt {k : Nat} (h : k ≤ 1048576) : k < fuel0 := by unfold fuel0; omega

def MPost.sm (p : MPost) : Prop := p.apex.size ≤ 1048576

def MForest.sm (f : MForest) : Prop := (f.zones.length ≤ 1048576 ∧ ∀ z, z ∈ f.zones → z.sm) ∧ (f.posts.length ≤ 1048576 ∧ ∀ p, p ∈ f.posts → p.sm)

theorem w_szZoneS_l0_p : ∀ (l : List MZone) (n : Int) (i : Nat), (∀ r, r ∈ l → r.ok) → 0 ≤ n ∧ n ≤ 1048576 → ∃ v, w_szZoneS_l0 l n i = some v ∧ v ≤ n ∧ (0 ≤ v → ∀ r, r ∈ l → r.sm)
  | [], n, i, _, _ => ⟨n, rfl, Int.le_refl _, fun _ r hr => by cases hr⟩
  | r :: l, n, i, hr, hn => by
    obtain ⟨v, h1, h2, h2'⟩ := w_szZone_p (hr r (.head _)) hn
    rw [w_szZoneS_l0, h1]
    by_cases c : v < 0
    · exact ⟨-1, by simp [c], by omega, by omega⟩
    · obtain ⟨w, h3, h4, h5⟩ := w_szZoneS_l0_p l v (i + 1) (fun q hq => hr q (.tail _ hq)) (by omega)
      exact ⟨w, by simp [c, h3], by omega, fun h q hq => by
        cases hq with
        | head => exact h2' (by omega)
        | tail _ hq => exact h5 h q hq⟩

theorem w_szZoneS_p {l : List MZone} {n : Int} (hl : l.length ≤ 9223372036854775807 ∧ ∀ r, r ∈ l → r.ok) (hn : 0 ≤ n ∧ n ≤ 1048576) : ∃ v, w_szZoneS l n = some v ∧ v ≤ n ∧ (0 ≤ v → l.length ≤ 1048576 ∧ ∀ r, r ∈ l → r.sm) := by
  obtain ⟨h0, hr⟩ := hl
  unfold w_szZoneS
  rw [grd_pos (by simp only [i64]; omega)]
  by_cases c : n - (l.length : Int) < 0
  · exact ⟨-1, by simp [c], by omega, by omega⟩
  · obtain ⟨v, h1, h2, h3⟩ := w_szZoneS_l0_p l (n - l.length) 0 hr (by omega)
    exact ⟨v, by simp [c, h1], by omega, fun h => ⟨by omega, h3 h⟩⟩

theorem w_szPost_p {r : MPost} {n : Int} (hr : r.ok) (hn : 0 ≤ n ∧ n ≤ 1048576) : ∃ v, w_szPost r n = some v ∧ v ≤ n ∧ (0 ≤ v → r.sm) := by
  obtain ⟨-, h1⟩ := hr
  unfold w_szPost MPost.sm
  rw [grd_pos (by simp only [i64]; omega)]
  by_cases c1 : n - (r.apex.size : Int) < 0
  · exact ⟨-1, by simp [c1], by omega, by omega⟩
  · exact ⟨_, by simp only [c1, decide_false, cond_false]; rfl, by omega, by omega⟩

theorem w_szPostS_l0_p : ∀ (l : List MPost) (n : Int) (i : Nat), (∀ r, r ∈ l → r.ok) → 0 ≤ n ∧ n ≤ 1048576 → ∃ v, w_szPostS_l0 l n i = some v ∧ v ≤ n ∧ (0 ≤ v → ∀ r, r ∈ l → r.sm)
  | [], n, i, _, _ => ⟨n, rfl, Int.le_refl _, fun _ r hr => by cases hr⟩
  | r :: l, n, i, hr, hn => by
    obtain ⟨v, h1, h2, h2'⟩ := w_szPost_p (hr r (.head _)) hn
    rw [w_szPostS_l0, h1]
    by_cases c : v < 0
    · exact ⟨-1, by simp [c], by omega, by omega⟩
    · obtain ⟨w, h3, h4, h5⟩ := w_szPostS_l0_p l v (i + 1) (fun q hq => hr q (.tail _ hq)) (by omega)
      exact ⟨w, by simp [c, h3], by omega, fun h q hq => by
        cases hq with
        | head => exact h2' (by omega)
        | tail _ hq => exact h5 h q hq⟩

theorem w_szPostS_p {l : List MPost} {n : Int} (hl : l.length ≤ 9223372036854775807 ∧ ∀ r, r ∈ l → r.ok) (hn : 0 ≤ n ∧ n ≤ 1048576) : ∃ v, w_szPostS l n = some v ∧ v ≤ n ∧ (0 ≤ v → l.length ≤ 1048576 ∧ ∀ r, r ∈ l → r.sm) := by
  obtain ⟨h0, hr⟩ := hl
  unfold w_szPostS
  rw [grd_pos (by simp only [i64]; omega)]
  by_cases c : n - (l.length : Int) < 0
  · exact ⟨-1, by simp [c], by omega, by omega⟩
  · obtain ⟨v, h1, h2, h3⟩ := w_szPostS_l0_p l (n - l.length) 0 hr (by omega)
    exact ⟨v, by simp [c, h1], by omega, fun h => ⟨by omega, h3 h⟩⟩

theorem w_szForest_p {f : MForest} {n : Int} (hf : f.ok) (hn : 0 ≤ n ∧ n ≤ 1048576) : ∃ v, w_szForest f n = some v ∧ v ≤ n ∧ (0 ≤ v → f.sm) := by
  obtain ⟨h1, h2⟩ := hf
  unfold w_szForest
  obtain ⟨a, a1, a2, a3⟩ := w_szZoneS_p h1 hn
  by_cases c : a < 0
  · exact ⟨-1, by simp [a1, c], by omega, by omega⟩
  obtain ⟨b, b1, b2, b3⟩ := w_szPostS_p h2 (n := a) (by omega)
  by_cases c' : b < 0
  · exact ⟨-1, by simp [a1, c, b1, c'], by omega, by omega⟩
  · exact ⟨b, by simp [a1, c, b1, c'], by omega, fun _ => ⟨a3 (by omega), b3 (by omega)⟩⟩

theorem w_toZoneS_l0_eq : ∀ (t pre : List MZone) (z : List MZone), z.length = t.length → (∀ r, r ∈ t → r.sm) → w_toZoneS_l0 t (pre ++ z) pre.length = some (pre ++ t)
  | [], pre, z, hz, _ => by cases z with | nil => rfl | cons a b => simp at hz
  | r :: t, pre, z, hz, h => by
    cases z with
    | nil => simp at hz
    | cons a z =>
      rw [w_toZoneS_l0]
      have := w_toZoneS_l0_eq t (pre ++ [r]) z (by simpa using hz) (fun q hq => h q (.tail _ hq))
      rw [w_toZone_eq (h r (.head _))]
      simp only [bnd1_mk, idx_nat]
      simp [bnd1] at this ⊢
      simpa using this

theorem w_toZoneS_eq {l : List MZone} (h : l.length ≤ 1099511627776) (hs : ∀ r, r ∈ l → r.sm) : w_toZoneS l = some l := by
  unfold w_toZoneS
  rw [grd_pos (by omega)]
  have := w_toZoneS_l0_eq l [] (List.replicate l.length ⟨⟨#[]⟩, []⟩) (by simp) hs
  simpa using this

theorem w_toPost_eq {r : MPost} : w_toPost r = some r := rfl

theorem w_toPostS_l0_eq : ∀ (t pre : List MPost) (z : List MPost), z.length = t.length → w_toPostS_l0 t (pre ++ z) pre.length = some (pre ++ t)
  | [], pre, z, hz => by cases z with | nil => rfl | cons a b => simp at hz
  | r :: t, pre, z, hz => by
    cases z with
    | nil => simp at hz
    | cons a z =>
      rw [w_toPostS_l0]
      have := w_toPostS_l0_eq t (pre ++ [r]) z (by simpa using hz)
      simp only [w_toPost_eq, bnd1_mk, idx_nat]
      simp [bnd1] at this ⊢
      simpa using this

theorem w_toPostS_eq {l : List MPost} (h : l.length ≤ 1099511627776) : w_toPostS l = some l := by
  unfold w_toPostS
  rw [grd_pos (by omega)]
  have := w_toPostS_l0_eq l [] (List.replicate l.length ⟨0, ⟨#[]⟩⟩) (by simp)
  simpa using this

theorem w_toForest_eq {f : MForest} (h : f.sm) : w_toForest f = some f := by
  unfold w_toForest
  rw [w_toZoneS_eq (Nat.le_trans h.1.1 (by decide)) h.1.2, bnd1_mk, w_toPostS_eq (Nat.le_trans h.2.1 (by decide)), bnd1_mk]

theorem w_eqZoneS_l0_self : ∀ (t pre : List MZone), w_eqZoneS_l0 (pre ++ t) t pre.length = some true
  | [], pre => rfl
  | r :: t, pre => by
    rw [w_eqZoneS_l0]
    have := w_eqZoneS_l0_self t (pre ++ [r])
    simp only [idx_nat]
    simp [w_eqZone_self] at this ⊢
    exact this

theorem w_eqZoneS_self {l : List MZone} : w_eqZoneS l l = some true := by
  unfold w_eqZoneS
  have := w_eqZoneS_l0_self l []
  simpa using this

theorem w_eqPost_self {a : MPost} : w_eqPost a a = some true := by unfold w_eqPost; simp

theorem w_eqPostS_l0_self : ∀ (t pre : List MPost), w_eqPostS_l0 (pre ++ t) t pre.length = some true
  | [], pre => rfl
  | r :: t, pre => by
    rw [w_eqPostS_l0]
    have := w_eqPostS_l0_self t (pre ++ [r])
    simp only [idx_nat]
    simp [w_eqPost_self] at this ⊢
    exact this

theorem w_eqPostS_self {l : List MPost} : w_eqPostS l l = some true := by
  unfold w_eqPostS
  have := w_eqPostS_l0_self l []
  simpa using this

theorem w_eqForest_self {f : MForest} : w_eqForest f f = some true := by unfold w_eqForest; simp [w_eqZoneS_self, w_eqPostS_self]

/-- Is the zone at b (none: below 0) less deep than a name? -/
def deeper (zs : List MZone) (b : Int) (a : ByteArray) : Bool := decide (b < 0) || (match idx zs b with | some z => decide (((labels z.apex).length : Int) < ((labels a).length : Int)) | none => false)

def deepL (zs : List MZone) (ok : ByteArray → Bool) : List MZone → Int → Nat → Int
  | [], b, _ => b
  | z :: l, b, i => deepL zs ok l (bif ok z.apex && deeper zs b z.apex then (i : Int) else b) (i + 1)

theorem i_PartsOf_eq {s : ByteArray} (h : s.size ≤ 1048576) : i_PartsOf s = some ((labels s).length : Int) := by unfold i_PartsOf; rw [i_Labels_eq h]; rfl

theorem s_PartsOf_eq {s : ByteArray} (h : s.size ≤ 1048576) : s_PartsOf s = some ((labels s).length : Int) := by unfold s_PartsOf; rw [s_Labels_eq h]; rfl

theorem idx_at {α : Type} {l : List α} {b : Int} (h0 : 0 ≤ b) (h : b < (l.length : Int)) : ∃ x, idx l b = some x ∧ x ∈ l := by
  have : b.toNat < l.length := by omega
  exact ⟨l[b.toNat], by simp [idx, h0, this], List.getElem_mem _⟩

theorem i_deepest_l0_eq {f : MForest} {s : ByteArray} {g : ByteArray → Option Bool} {q : ByteArray → Bool} (hf : f.sm) (hs : s.size ≤ 1048576) (hg : ∀ a, a.size ≤ 1048576 → g a = some (q a)) : ∀ (l : List MZone) (b : Int) (i : Nat), (∀ z, z ∈ l → z.sm) → b < (f.zones.length : Int) → i + l.length ≤ f.zones.length →
    i_deepest_l0 f s g l b i = some (deepL f.zones (fun a => under s a && q a) l b i)
  | [], b, i, _, _, _ => rfl
  | z :: l, b, i, hz, hb, hi => by
    have hz0 : z.apex.size ≤ 1048576 := (hz z (.head _)).1
    simp only [List.length_cons] at hi
    have ih : ∀ b', b' < (f.zones.length : Int) → i_deepest_l0 f s g l b' (i + 1) = some (deepL f.zones (fun a => under s a && q a) l b' (i + 1)) := fun b' hb' => i_deepest_l0_eq hf hs hg l b' (i + 1) (fun q hq => hz q (.tail _ hq)) hb' (by omega)
    rw [i_deepest_l0, i_Under_eq hs hz0, bnd1_mk, deepL]
    have hj : ∀ c : Bool, i_deepest_j1 b i (i_deepest_l0 f s g l) c = some (deepL f.zones (fun a => under s a && q a) l (bif c then (i : Int) else b) (i + 1)) := fun c => by
      unfold i_deepest_j1; cases c
      · exact ih b hb
      · exact ih i (by omega)
    cases under s z.apex with
    | false => exact hj false
    | true =>
      simp only [cond_true, Bool.true_and]
      rw [hg _ hz0, bnd1_mk]
      cases q z.apex with
      | false => exact hj false
      | true =>
        simp only [cond_true, Bool.true_and]
        by_cases c : b < 0
        · simp only [c, decide_true, cond_true, deeper, Bool.true_or]; exact hj true
        · obtain ⟨y, hy, hm⟩ := idx_at (l := f.zones) (b := b) (by omega) hb
          simp only [c, decide_false, cond_false, deeper, Bool.false_or, hy, i_PartsOf_eq hz0, i_PartsOf_eq (hf.1.2 y hm).1, bnd1_mk]
          exact hj _

def posted (f : MForest) (a : Int) (s : ByteArray) : Bool := f.posts.any fun p => decide (p.addr = a) && decide (p.apex = s)

theorem s_l12Posted_l0_eq {a : Int} {s : ByteArray} : ∀ (l : List MPost) (i : Nat), s_l12Posted_l0 a s l i = some (l.any fun p => decide (p.addr = a) && decide (p.apex = s))
  | [], i => rfl
  | p :: l, i => by
    rw [s_l12Posted_l0, List.any_cons]
    have ih := s_l12Posted_l0_eq (a := a) (s := s) l (i + 1)
    by_cases c : p.addr = a <;> by_cases c' : p.apex = s <;> simp [s_l12Posted_j1, c, c', ih]

theorem s_l12Posted_eq {f : MForest} {a : Int} {s : ByteArray} : s_l12Posted f a s = some (posted f a s) := s_l12Posted_l0_eq _ _

theorem slices_Index_Post_l0_eq {p : MPost} : ∀ (l : List MPost) (i : Nat), ∃ v, slices_Index_Post_l0 p l i = some v ∧ decide (0 ≤ v) = l.any fun x => decide (x.addr = p.addr) && decide (x.apex = p.apex)
  | [], i => ⟨-1, rfl, rfl⟩
  | x :: l, i => by
    rw [slices_Index_Post_l0, List.any_cons]
    obtain ⟨v, h1, h2⟩ := slices_Index_Post_l0_eq (p := p) l (i + 1)
    by_cases c : p.addr = x.addr
    · by_cases c' : p.apex = x.apex
      · exact ⟨i, by simp [c, c'], by simp [c, c']⟩
      · have c2 : ¬ x.apex = p.apex := fun h => c' h.symm
        exact ⟨v, by simp [c, c', h1], by rw [h2]; simp [c, c2]⟩
    · have c2 : ¬ x.addr = p.addr := fun h => c h.symm
      exact ⟨v, by simp [c, h1], by rw [h2]; simp [c2]⟩

theorem i_ZoneAt_1_eq {f : MForest} {a : Int} {s : ByteArray} : i_ZoneAt_1 s f a = some (posted f a s) := by
  unfold i_ZoneAt_1 slices_Contains_Post slices_Index_Post
  obtain ⟨v, h1, h2⟩ := slices_Index_Post_l0_eq (p := ⟨a, s⟩) f.posts 0
  rw [h1, bnd1_mk, bnd1_mk, h2]; rfl

def zoneAt (f : MForest) (a : Int) (s : ByteArray) : Int := deepL f.zones (fun x => under s x && posted f a x) f.zones (-1) 0

theorem s_ZoneAt_l0_eq {f : MForest} {a : Int} {s : ByteArray} (hf : f.sm) (hs : s.size ≤ 1048576) : ∀ (l : List MZone) (b : Int) (i : Nat), (∀ z, z ∈ l → z.sm) → b < (f.zones.length : Int) → i + l.length ≤ f.zones.length →
    s_ZoneAt_l0 f a s l b i = some (deepL f.zones (fun x => under s x && posted f a x) l b i)
  | [], b, i, _, _, _ => rfl
  | z :: l, b, i, hz, hb, hi => by
    have hz0 : z.apex.size ≤ 1048576 := (hz z (.head _)).1
    simp only [List.length_cons] at hi
    have ih : ∀ b', b' < (f.zones.length : Int) → s_ZoneAt_l0 f a s l b' (i + 1) = some (deepL f.zones (fun x => under s x && posted f a x) l b' (i + 1)) := fun b' hb' => s_ZoneAt_l0_eq hf hs l b' (i + 1) (fun q hq => hz q (.tail _ hq)) hb' (by omega)
    rw [s_ZoneAt_l0, s_l12Posted_eq, bnd1_mk, deepL]
    have hj : ∀ c : Bool, s_ZoneAt_j1 b i (s_ZoneAt_l0 f a s l) c = some (deepL f.zones (fun x => under s x && posted f a x) l (bif c then (i : Int) else b) (i + 1)) := fun c => by
      unfold s_ZoneAt_j1; cases c
      · exact ih b hb
      · exact ih i (by omega)
    cases posted f a z.apex with
    | false => simp only [Bool.and_false, Bool.false_and]; exact hj false
    | true =>
      simp only [cond_true, Bool.and_true]
      rw [s_Under_eq hs hz0, bnd1_mk]
      cases under s z.apex with
      | false => exact hj false
      | true =>
        simp only [cond_true, Bool.true_and]
        by_cases c : b < 0
        · simp only [c, decide_true, cond_true, deeper, Bool.true_or]; exact hj true
        · obtain ⟨y, hy, hm⟩ := idx_at (l := f.zones) (b := b) (by omega) hb
          simp only [c, decide_false, cond_false, deeper, Bool.false_or, hy, s_PartsOf_eq hz0, s_PartsOf_eq (hf.1.2 y hm).1, bnd1_mk]
          exact hj _

theorem s_ZoneAt_eq {f : MForest} {a : Int} {s : ByteArray} (hf : f.sm) (hs : s.size ≤ 1048576) : s_ZoneAt f a s = some (zoneAt f a s) :=
  s_ZoneAt_l0_eq hf hs _ _ _ hf.1.2 (by omega) (by omega)

theorem i_ZoneAt_eq {f : MForest} {a : Int} {s : ByteArray} (hf : f.sm) (hs : s.size ≤ 1048576) : i_ZoneAt f a s = some (zoneAt f a s) := by
  unfold i_ZoneAt i_deepest
  rw [i_deepest_l0_eq (g := fun a0 => i_ZoneAt_1 a0 f a) (q := fun x => posted f a x) hf hs (fun _ _ => i_ZoneAt_1_eq) f.zones (-1) 0 hf.1.2 (by omega) (by omega)]; rfl

theorem deepL_lt {zs : List MZone} {ok : ByteArray → Bool} : ∀ (l : List MZone) (b : Int) (i : Nat), b < (zs.length : Int) → i + l.length ≤ zs.length → deepL zs ok l b i < (zs.length : Int)
  | [], b, i, hb, _ => hb
  | z :: l, b, i, hb, hi => by
    simp only [List.length_cons] at hi
    unfold deepL
    refine deepL_lt l _ _ ?_ (by omega)
    cases (ok z.apex && deeper zs b z.apex)
    · exact hb
    · show (i : Int) < _; omega

/-- The zone that a place tells, if it tells one. -/
def zoneNo (f : MForest) (k : Int) : Option MZone := if k < 0 then none else idx f.zones k

theorem zoneNo_cases {f : MForest} {k : Int} (h : k < (f.zones.length : Int)) : (k < 0 ∧ zoneNo f k = none) ∨ (¬ k < 0 ∧ ∃ z, idx f.zones k = some z ∧ zoneNo f k = some z ∧ z ∈ f.zones) := by
  by_cases c : k < 0
  · exact .inl ⟨c, by simp [zoneNo, c]⟩
  · obtain ⟨z, h1, h2⟩ := idx_at (l := f.zones) (b := k) (by omega) h
    exact .inr ⟨c, z, h1, by simp [zoneNo, c, h1], h2⟩

theorem zoneAt_at (f : MForest) (a : Int) (s : ByteArray) : (zoneAt f a s < 0 ∧ zoneNo f (zoneAt f a s) = none) ∨ (¬ zoneAt f a s < 0 ∧ ∃ z, idx f.zones (zoneAt f a s) = some z ∧ zoneNo f (zoneAt f a s) = some z ∧ z ∈ f.zones) := by
  cases h : f.zones with
  | nil => left; unfold zoneAt; rw [h]; exact ⟨by show (-1 : Int) < 0; decide, rfl⟩
  | cons z l =>
    rw [← h]
    exact zoneNo_cases (by unfold zoneAt; exact deepL_lt _ _ _ (by rw [h]; simp; omega) (by omega))

theorem bL_irr : ∀ x : List UInt8, Op.bytesLess x x = false
  | [] => rfl
  | a :: x => by simp [Op.bytesLess, bL_irr x, UInt8.lt_irrefl]

theorem bL_trans : ∀ x y z : List UInt8, Op.bytesLess x y = true → Op.bytesLess y z = true → Op.bytesLess x z = true
  | [], [], _, h, _ => by simp [Op.bytesLess] at h
  | [], _ :: _, [], _, h => by simp [Op.bytesLess] at h
  | [], _ :: _, _ :: _, _, _ => rfl
  | _ :: _, [], _, h, _ => by simp [Op.bytesLess] at h
  | _ :: _, _ :: _, [], _, h => by simp [Op.bytesLess] at h
  | a :: x, b :: y, c :: z, h, k => by
    simp only [Op.bytesLess, Bool.or_eq_true, decide_eq_true_eq, Bool.and_eq_true, beq_iff_eq] at h k ⊢
    rcases h with h | ⟨h, h'⟩ <;> rcases k with k | ⟨k, k'⟩
    · exact .inl (UInt8.lt_trans h k)
    · exact .inl (k ▸ h)
    · exact .inl (h ▸ k)
    · exact .inr ⟨h.trans k, bL_trans x y z h' k'⟩

def bl (a b : ByteArray) : Bool := Op.bytesLess (bts a) (bts b)

theorem bl_irr (a : ByteArray) : bl a a = false := bL_irr _

theorem bl_trans (a b c : ByteArray) (h : bl a b = true) (k : bl b c = true) : bl a c = true := bL_trans _ _ _ h k

def lexN : List ByteArray → List ByteArray → Bool
  | _, [] => false
  | [], _ :: _ => true
  | x :: xs, y :: ys => if x = y then lexN xs ys else bl x y

theorem lexN_irr : ∀ x : List ByteArray, lexN x x = false
  | [] => rfl
  | a :: x => by simp [lexN, lexN_irr x]

theorem lexN_trans : ∀ x y z : List ByteArray, lexN x y = true → lexN y z = true → lexN x z = true
  | [], [], _, h, _ => by simp [lexN] at h
  | [], _ :: _, [], _, h => by simp [lexN] at h
  | [], _ :: _, _ :: _, _, _ => rfl
  | _ :: _, [], _, h, _ => by simp [lexN] at h
  | _ :: _, _ :: _, [], _, h => by simp [lexN] at h
  | a :: x, b :: y, c :: z, h, k => by
    unfold lexN at h k ⊢
    by_cases e1 : a = b
    · subst e1
      rw [if_pos rfl] at h
      by_cases e2 : a = c
      · rw [if_pos e2] at k ⊢; exact lexN_trans x y z h k
      · rw [if_neg e2] at k ⊢; exact k
    · rw [if_neg e1] at h
      by_cases e2 : b = c
      · subst e2; rw [if_neg e1]; exact h
      · rw [if_neg e2] at k
        have h3 := bl_trans a b c h k
        by_cases e3 : a = c
        · subst e3; rw [bl_irr] at h3; cases h3
        · rw [if_neg e3]; exact h3

def lessN (a b : ByteArray) : Bool := lexN (labels a).reverse (labels b).reverse

theorem lessN_irr (a : ByteArray) : lessN a a = false := lexN_irr _

theorem lessN_trans (a b c : ByteArray) (h : lessN a b = true) (k : lessN b c = true) : lessN a c = true := lexN_trans _ _ _ h k

def lx {α : Type} [DecidableEq α] (lt : α → α → Bool) (x y : α) (r : Bool) : Bool := if x = y then r else lt x y

def lti (a b : Int) : Bool := decide (a < b)

def lessR (a b : Rec) : Bool := lx lessN a.name b.name (lx lti a.ty b.ty (lx lti a.n b.n (lx lessN a.host b.host (lx bl a.text b.text (lti a.ttl b.ttl)))))

def lt (a b : Rec) : Prop := lessR a b = true

theorem name_or {a b : Rec} (h : lt a b) : a.name = b.name ∨ lessN a.name b.name = true := by
  unfold lt lessR lx at h
  by_cases c : a.name = b.name
  · exact .inl c
  · rw [if_neg c] at h; exact .inr h

theorem between {a b c : Rec} (h : lt a b) (k : lt b c) (e : a.name = c.name) (e' : a.ty = c.ty) : b.name = a.name ∧ b.ty = a.ty := by
  have h1 : a.name = b.name := by
    rcases name_or h with h1 | h1
    · exact h1
    · rcases name_or k with h2 | h2
      · rw [e, h2, lessN_irr] at h1; cases h1
      · have := lessN_trans _ _ _ h1 h2
        rw [e, lessN_irr] at this; cases this
  refine ⟨h1.symm, ?_⟩
  unfold lt lessR lx at h k
  rw [if_pos h1] at h
  rw [if_pos (h1.symm.trans e)] at k
  by_cases c1 : a.ty = b.ty
  · exact c1.symm
  · rw [if_neg c1] at h
    by_cases c2 : b.ty = c.ty
    · exact c2.trans e'.symm
    · rw [if_neg c2] at k
      simp only [lti, decide_eq_true_eq] at h k; omega

/-- How long an entry may last from now on. -/
def left (til now : Int) : Int := if til - now ≤ 100000 then til - now else 100000

theorem helpIn_mem {z : MZone} {q : Quest} {r : Rec} (h : r ∈ helpIn z q) : r ∈ z.l := by
  unfold helpIn at h
  revert h
  cases decide (kindIn z q = 1) <;> intro h <;> simp only [Bool.not_true, Bool.not_false, cond_true, cond_false] at h
  · cases h
  · exact glueL_mem h

theorem w_markZoneS_l0_p : ∀ (k fl : Nat) (l : List MZone) (n : Int) (i : Nat), i + k = l.length → k < fl → (∀ z, z ∈ l → z.l.length ≤ 1048576) → 0 ≤ n → n + k * 8388608 ≤ 4611686018427380000 → l.length ≤ 1048576 → ∃ a m, w_markZoneS_l0 fl l n (i : Int) = some (a, m) ∧ m.length = l.length ∧ n ≤ a ∧ a ≤ n + k * 8388608
  | 0, fl, l, n, i, hi, hf, hz, h0, hn, hl => by
    obtain ⟨fl, rfl⟩ : ∃ q, fl = q + 1 := ⟨fl - 1, by omega⟩
    rw [w_markZoneS_l0, decide_eq_false (by omega), cond_false]
    exact ⟨n, l, rfl, rfl, Int.le_refl _, by omega⟩
  | k + 1, fl, l, n, i, hi, hf, hz, h0, hn, hl => by
    obtain ⟨fl, rfl⟩ : ∃ q, fl = q + 1 := ⟨fl - 1, by omega⟩
    obtain ⟨z, hx⟩ : ∃ z, l[i]? = some z := ⟨_, List.getElem?_eq_getElem (by omega)⟩
    have hm := List.mem_of_getElem? hx
    have h2 := hz z hm
    have e : ((i : Int) + 1) = ((i + 1 : Nat) : Int) := by omega
    rw [w_markZoneS_l0, decide_eq_true (by omega), cond_true, w_markText_eq (by omega), bnd1_mk, idx_nat, hx, bnd1_mk, grd_pos (by simp only [i64]; omega), w_markRecordS_eq (by omega) (by omega) (by omega), bnd2_mk, grd_pos (mkL_len _ _), grd_pos (by simp only [i64]; omega), e]
    obtain ⟨a, m, h3, h4, h5, h6⟩ := w_markZoneS_l0_p k fl (l.set (i : Int).toNat ⟨mkT n, mkL z.l (n + 1)⟩) (n + 1 + 6 * z.l.length) (i + 1) (by rw [List.length_set]; omega) (by omega) (fun y hy => by
      rcases List.mem_or_eq_of_mem_set hy with hy | rfl
      · exact hz y hy
      · show (mkL z.l (n + 1)).length ≤ _; rw [mkL_len]; exact h2) (by omega) (by omega) (by rw [List.length_set]; omega)
    exact ⟨a, m, h3, by rw [h4, List.length_set], by omega, by omega⟩

theorem w_markPostS_l0_p : ∀ (k fl : Nat) (l : List MPost) (n : Int) (i : Nat), i + k = l.length → k < fl → 0 ≤ n → n + 2 * k ≤ 4611686018427387800 → l.length ≤ 1048576 → ∃ a m, w_markPostS_l0 fl l n (i : Int) = some (a, m) ∧ m.length = l.length ∧ n ≤ a ∧ a ≤ n + 2 * k
  | 0, fl, l, n, i, hi, hf, h0, hn, hl => by
    obtain ⟨fl, rfl⟩ : ∃ q, fl = q + 1 := ⟨fl - 1, by omega⟩
    rw [w_markPostS_l0, decide_eq_false (by omega), cond_false]
    exact ⟨n, l, rfl, rfl, Int.le_refl _, by omega⟩
  | k + 1, fl, l, n, i, hi, hf, h0, hn, hl => by
    obtain ⟨fl, rfl⟩ : ∃ q, fl = q + 1 := ⟨fl - 1, by omega⟩
    obtain ⟨z, hx⟩ : ∃ z, l[i]? = some z := ⟨_, List.getElem?_eq_getElem (by omega)⟩
    have e : ((i : Int) + 1) = ((i + 1 : Nat) : Int) := by omega
    rw [w_markPostS_l0, decide_eq_true (by omega), cond_true, idx_nat, hx, bnd1_mk, grd_pos (by simp only [i64]; omega), w_markText_eq (by omega), bnd1_mk, grd_pos (by simp only [i64]; omega), grd_pos (by simp only [i64]; omega), e]
    obtain ⟨a, m, h3, h4, h5, h6⟩ := w_markPostS_l0_p k fl ((l.set (i : Int).toNat ⟨n, z.apex⟩).set (i : Int).toNat ⟨n, mkT (n + 1)⟩) (n + 1 + 1) (i + 1) (by simp only [List.length_set]; omega) (by omega) (by omega) (by omega) (by simp only [List.length_set]; omega)
    exact ⟨a, m, h3, by rw [h4, List.length_set, List.length_set], by omega, by omega⟩

theorem w_markForest_q {f : MForest} (h : f.sm) : ∃ a b c, w_markForest f 1 = some (a, b, c) ∧ 0 ≤ a ∧ b.length = f.zones.length ∧ c.length = f.posts.length ∧ a ≤ 10000000000000 := by
  obtain ⟨a, m, h1, h2, h3, h4⟩ := w_markZoneS_l0_p f.zones.length fuel0 f.zones 1 0 (by omega) (fuel_lt h.1.1) (fun z hz => (h.1.2 z hz).2.1) (by omega) (by have := h.1.1; omega) h.1.1
  obtain ⟨b, q, k1, k2, k3, k4⟩ := w_markPostS_l0_p f.posts.length fuel0 f.posts a 0 (by omega) (fuel_lt h.2.1) (by omega) (by have := h.1.1; have := h.2.1; omega) h.2.1
  have e1 : w_markZoneS f.zones 1 = some (a, m) := h1
  have e2 : w_markPostS f.posts a = some (b, q) := k1
  unfold w_markForest
  rw [e1, bnd2_mk, grd_pos h2, e2, bnd2_mk, grd_pos k2]
  exact ⟨_, _, _, rfl, by omega, h2, k2, by have := h.1.1; have := h.2.1; omega⟩

/-- Small records, not many. -/
def sl (l : List Rec) (n : Nat) : Prop := l.length ≤ n ∧ ∀ r, r ∈ l → r.sm

/-- A drawn message. -/
def MMsg.dm (m : MMsg) (n : Nat) : Prop := m.q.sm ∧ sl m.an n ∧ sl m.au n ∧ sl m.ad n

theorem take_sl {l : List Rec} (h : smL l) : sl (l.take 8) 8 := ⟨take8_len, fun r hr => h.2 r (List.mem_of_mem_take hr)⟩

theorem serve_dm {z : MZone} {m : MMsg} (h : z.sm) (hq : m.q.sm) : (serve z m).dm 8 := ⟨hq, take_sl (answerIn_sm h m.q), take_sl (moreIn_sm h m.q), ⟨take8_len, fun r hr => h.2.2 r (helpIn_mem (List.mem_of_mem_take hr))⟩⟩

def replyAt (f : MForest) (a : Int) (m : MMsg) : MMsg := match zoneNo f (zoneAt f a m.q.name) with | some z => serve z m | none => reply m 5 false [] [] []

theorem s_ReplyAt_eq {f : MForest} {a : Int} {m : MMsg} (hf : f.sm) (hq : m.q.sm) : s_ReplyAt f a m = some (replyAt f a m) := by
  unfold s_ReplyAt replyAt
  rw [s_ZoneAt_eq hf hq, bnd1_mk]
  rcases zoneAt_at f a m.q.name with ⟨h1, h2⟩ | ⟨h1, z, h2, h3, h4⟩
  · rw [h2, decide_eq_true h1, cond_true, s_ReplyTo_eq (by simp) (by simp) (by simp), bnd1_mk]
  · rw [h3, h2, decide_eq_false h1, cond_false, bnd1_mk, s_Serve_eq (hf.1.2 z h4) hq, bnd1_mk]

theorem replyAt_dm {f : MForest} {a : Int} {m : MMsg} (hf : f.sm) (hq : m.q.sm) : (replyAt f a m).dm 8 := by
  unfold replyAt
  rcases zoneAt_at f a m.q.name with ⟨h1, h2⟩ | ⟨h1, z, h2, h3, h4⟩
  · rw [h2]; exact ⟨hq, ⟨Nat.zero_le _, fun r hr => by cases hr⟩, ⟨Nat.zero_le _, fun r hr => by cases hr⟩, ⟨Nat.zero_le _, fun r hr => by cases hr⟩⟩
  · rw [h3]; exact serve_dm (hf.1.2 z h4) hq

theorem i_ReplyAt_eq {f : MForest} {a : Int} {m : MMsg} (hf : f.sm) (hq : m.q.sm) : i_ReplyAt f a m = some (replyAt f a m) := by
  unfold i_ReplyAt replyAt
  rw [i_ZoneAt_eq hf hq, bnd1_mk]
  rcases zoneAt_at f a m.q.name with ⟨h1, h2⟩ | ⟨h1, z, h2, h3, h4⟩
  · rw [h2, decide_eq_true h1, cond_true, i_ReplyTo_eq (by simp) (by simp) (by simp), bnd1_mk]
  · rw [h3, h2, decide_eq_false h1, cond_false, bnd1_mk, i_Serve_eq (hf.1.2 z h4) hq, bnd1_mk]

theorem w_markMsg_q {m : MMsg} {n : Int} (h0 : 0 ≤ n ∧ n ≤ 1000000000000000) (h1 : m.an.length ≤ 1048576) (h2 : m.au.length ≤ 1048576) (h3 : m.ad.length ≤ 1048576) :
    ∃ a b c d, w_markMsg m n = some (a, b, c, d) ∧ 0 ≤ a ∧ b.length = m.an.length ∧ c.length = m.au.length ∧ d.length = m.ad.length := by
  unfold w_markMsg
  rw [w_markRecordS_eq (by omega) (by omega) (by omega), bnd2_mk, grd_pos (mkL_len _ _), w_markRecordS_eq (by omega) (by omega) (by omega), bnd2_mk, grd_pos (mkL_len _ _), w_markRecordS_eq (by omega) (by omega) (by omega), bnd2_mk, grd_pos (mkL_len _ _)]
  exact ⟨_, _, _, _, rfl, by omega, mkL_len _ _, mkL_len _ _, mkL_len _ _⟩

theorem law_ReplyAt {f : MForest} {a : Int} {m : MMsg} (hf : f.ok) (_ : i64 a) (hm : m.ok) : w_FnExactReplyAt f a m = some true := by
  unfold w_FnExactReplyAt
  obtain ⟨v, h3, h4, h5⟩ := w_szForest_p hf (n := 1048576) (by omega)
  rw [h3]
  by_cases c : v < 0
  · simp [c]
  obtain ⟨u, k3, k4, k5⟩ := w_szMsg_p hm (n := v) (by omega)
  rw [bnd1_mk, k3]
  by_cases c' : u < 0
  · simp [c, c']
  · have h6 := h5 (by omega)
    have k6 := k5 (by omega)
    obtain ⟨kq, ⟨ka, -⟩, ⟨kb, -⟩, ⟨kd, -⟩⟩ := id k6
    have e1 := s_ReplyAt_eq (a := a) h6 kq
    have e2 := i_ReplyAt_eq (a := a) h6 kq
    obtain ⟨-, ⟨l1, -⟩, ⟨l2, -⟩, ⟨l3, -⟩⟩ := replyAt_dm (a := a) h6 kq
    generalize replyAt f a m = s at e1 e2 l1 l2 l3
    obtain ⟨x, b, d, g1, g2, g3, g4, g5⟩ := w_markForest_q h6
    obtain ⟨y, b2, c2, d2, r1, r2, r3, r4, r5⟩ := w_markMsg_q (m := m) (n := x) (by omega) ka kb kd
    have cy : ¬ (y < 0) := by omega
    have c3 : ¬ ((1 : Int) + 6 * (s.an.length : Int) + 6 * (s.au.length : Int) + 6 * (s.ad.length : Int) < 0) := by omega
    simp [c, c', w_toForest_eq h6, w_toMsg_eq k6, e1, e2, w_eqForest_self, w_eqMsg_self, g1, g3, g4, grd_pos, r1, r3, r4, r5, cy, mkL_len, w_FnExactReplyAt_j0,
      w_markMsg_at (m := s) (n := 1) (by omega) (by omega) (by omega) (by omega)]
    rw [w_heldMsg_at (m := s) (n := 1) (by omega) (by omega) (by omega) (by omega)]
    simp [c3]
end Go.Abs.M
