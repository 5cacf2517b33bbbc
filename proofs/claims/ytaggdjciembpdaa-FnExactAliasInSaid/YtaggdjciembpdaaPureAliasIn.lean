/- The pure law of AliasIn: its pure function answers true. -/
import Derived.Test.YtaggdjciembpdaaFnsAliasIn
namespace Go.Abs.M
open Go Go.Abs
theorem idx_nat {α : Type} {l : List α} {n : Nat} : idx l (n : Int) = l[n]? := by simp [idx]

theorem int_succ_ne (n : Nat) : ((n : Int) + 1 = 0) ↔ False := ⟨fun h => by omega, False.elim⟩

theorem idx_zero {α : Type} {l : List α} : idx l 0 = l[0]? := by simp [idx]

def okL (l : List Rec) : Prop := l.length ≤ 9223372036854775807 ∧ ∀ r, r ∈ l → r.ok

theorem w_szRecord_p {r : Rec} {n : Int} (hr : r.ok) (hn : 0 ≤ n ∧ n ≤ 1048576) : ∃ v, w_szRecord r n = some v ∧ v ≤ n := by
  obtain ⟨h1, -, -, -, h2, h3⟩ := hr
  unfold w_szRecord
  rw [grd_pos (by simp only [i64]; omega)]
  by_cases c1 : n - (r.name.size : Int) < 0
  · exact ⟨-1, by simp [c1], by omega⟩
  · simp only [c1, decide_false, cond_false]
    rw [grd_pos (by simp only [i64]; omega)]
    by_cases c2 : n - (r.name.size : Int) - (r.host.size : Int) < 0
    · exact ⟨-1, by simp [c2], by omega⟩
    · simp only [c2, decide_false, cond_false]
      rw [grd_pos (by simp only [i64]; omega)]
      by_cases c3 : n - (r.name.size : Int) - (r.host.size : Int) - (r.text.size : Int) < 0
      · exact ⟨-1, by simp [c3], by omega⟩
      · exact ⟨_, by simp only [c3, decide_false, cond_false]; rfl, by omega⟩

theorem w_szRecordS_l0_p : ∀ (l : List Rec) (n : Int) (i : Nat), (∀ r, r ∈ l → r.ok) → 0 ≤ n ∧ n ≤ 1048576 → ∃ v, w_szRecordS_l0 l n i = some v ∧ v ≤ n
  | [], n, i, _, _ => ⟨n, rfl, Int.le_refl _⟩
  | r :: l, n, i, hr, hn => by
    obtain ⟨v, h1, h2⟩ := w_szRecord_p (hr r (.head _)) hn
    rw [w_szRecordS_l0, h1]
    by_cases c : v < 0
    · exact ⟨-1, by simp [c], by omega⟩
    · obtain ⟨w, h3, h4⟩ := w_szRecordS_l0_p l v (i + 1) (fun q hq => hr q (.tail _ hq)) (by omega)
      exact ⟨w, by simp [c, h3], by omega⟩

theorem w_szRecordS_p {l : List Rec} {n : Int} (hl : okL l) (hn : 0 ≤ n ∧ n ≤ 1048576) : ∃ v, w_szRecordS l n = some v ∧ v ≤ n ∧ (0 ≤ v → (l.length : Int) ≤ n) := by
  obtain ⟨h0, hr⟩ := hl
  unfold w_szRecordS
  rw [grd_pos (by simp only [i64]; omega)]
  by_cases c : n - (l.length : Int) < 0
  · exact ⟨-1, by simp [c], by omega, by omega⟩
  · obtain ⟨v, h1, h2⟩ := w_szRecordS_l0_p l (n - l.length) 0 hr (by omega)
    exact ⟨v, by simp [c, h1], by omega, by omega⟩

theorem w_toRecord_eq {r : Rec} : w_toRecord r = some r := rfl

theorem w_toRecordS_l0_eq : ∀ (t pre : List Rec) (z : List Rec), z.length = t.length → w_toRecordS_l0 t (pre ++ z) pre.length = some (pre ++ t)
  | [], pre, z, hz => by cases z with | nil => rfl | cons a b => simp at hz
  | r :: t, pre, z, hz => by
    cases z with
    | nil => simp at hz
    | cons a z =>
      rw [w_toRecordS_l0]
      have := w_toRecordS_l0_eq t (pre ++ [r]) z (by simpa using hz)
      simp only [w_toRecord_eq, bnd1_mk, idx_nat]
      simp [bnd1] at this ⊢
      simpa using this

theorem w_toRecordS_eq {l : List Rec} (h : l.length ≤ 1099511627776) : w_toRecordS l = some l := by
  unfold w_toRecordS
  rw [grd_pos (by omega)]
  have := w_toRecordS_l0_eq l [] (List.replicate l.length ⟨⟨#[]⟩, 0, 0, 0, ⟨#[]⟩, ⟨#[]⟩⟩) (by simp)
  simpa using this

theorem w_eqRecord_self {a : Rec} : w_eqRecord a a = some true := by unfold w_eqRecord; simp

theorem w_eqRecordS_l0_self : ∀ (t pre : List Rec), w_eqRecordS_l0 (pre ++ t) t pre.length = some true
  | [], pre => rfl
  | r :: t, pre => by
    rw [w_eqRecordS_l0]
    have := w_eqRecordS_l0_self t (pre ++ [r])
    simp only [idx_nat]
    simp [w_eqRecord_self] at this ⊢
    exact this

theorem w_eqRecordS_self {l : List Rec} : w_eqRecordS l l = some true := by
  unfold w_eqRecordS
  have := w_eqRecordS_l0_self l []
  simpa using this

def zrec : Rec := ⟨⟨#[]⟩, 0, 0, 0, ⟨#[]⟩, ⟨#[]⟩⟩

def first (p : Rec → Bool) (l : List Rec) : Rec := (l.find? p).getD zrec

theorem w_szQuest_p {q : Quest} {n : Int} (hq : q.ok) (hn : 0 ≤ n ∧ n ≤ 1048576) : ∃ v, w_szQuest q n = some v ∧ v ≤ n := by
  obtain ⟨h1, -⟩ := hq
  unfold w_szQuest
  rw [grd_pos (by simp only [i64]; omega)]
  by_cases c1 : n - (q.name.size : Int) < 0
  · exact ⟨-1, by simp [c1], by omega⟩
  · exact ⟨_, by simp only [c1, decide_false, cond_false]; rfl, by omega⟩

theorem w_szMsg_p {m : MMsg} {n : Int} (hm : m.ok) (hn : 0 ≤ n ∧ n ≤ 1048576) : ∃ v, w_szMsg m n = some v ∧ v ≤ n ∧ (0 ≤ v → (m.an.length : Int) ≤ n ∧ (m.au.length : Int) ≤ n ∧ (m.ad.length : Int) ≤ n) := by
  obtain ⟨-, -, h3, h4, h5, h6⟩ := hm
  unfold w_szMsg
  obtain ⟨a, a1, a2⟩ := w_szQuest_p h3 hn
  by_cases c : a < 0
  · exact ⟨-1, by simp [a1, c], by omega, by omega⟩
  obtain ⟨b, b1, b2, b3⟩ := w_szRecordS_p h4 (n := a) (by omega)
  by_cases c' : b < 0
  · exact ⟨-1, by simp [a1, c, b1, c'], by omega, by omega⟩
  obtain ⟨d, d1, d2, d3⟩ := w_szRecordS_p h5 (n := b) (by omega)
  by_cases c2 : d < 0
  · exact ⟨-1, by simp [a1, c, b1, c', d1, c2], by omega, by omega⟩
  obtain ⟨e, e1, e2, e3⟩ := w_szRecordS_p h6 (n := d) (by omega)
  by_cases c3 : e < 0
  · exact ⟨-1, by simp [a1, c, b1, c', d1, c2, e1, c3], by omega, by omega⟩
  · exact ⟨e, by simp [a1, c, b1, c', d1, c2, e1, c3], by omega, fun _ => by omega⟩

theorem w_toQuest_eq {q : Quest} : w_toQuest q = some q := rfl

theorem w_toMsg_eq {m : MMsg} (h1 : m.an.length ≤ 1099511627776) (h2 : m.au.length ≤ 1099511627776) (h3 : m.ad.length ≤ 1099511627776) : w_toMsg m = some m := by
  unfold w_toMsg; simp [w_toQuest_eq, w_toRecordS_eq h1, w_toRecordS_eq h2, w_toRecordS_eq h3]

theorem w_eqQuest_self {q : Quest} : w_eqQuest q q = some true := by unfold w_eqQuest; simp

theorem w_eqMsg_self {m : MMsg} : w_eqMsg m m = some true := by unfold w_eqMsg; simp [w_eqRecordS_self, w_eqQuest_self]

def setOf (l : List Rec) (nm : ByteArray) (k : Int) : List Rec := l.filter fun r => decide (r.name = nm) && decide (r.ty = k)

theorem i_SetOf_l0_eq (nm : ByteArray) (k : Int) : ∀ (l out : List Rec) (i : Nat), out.length + l.length ≤ 1099511627776 → i_SetOf_l0 nm k l out i = some (out ++ setOf l nm k)
  | [], out, i, _ => by simp [i_SetOf_l0, setOf]
  | r :: l, out, i, h => by
    simp only [List.length_cons] at h
    have h1 := i_SetOf_l0_eq nm k l (out ++ [r]) (i + 1) (by simp; omega)
    have h2 := i_SetOf_l0_eq nm k l out (i + 1) (by omega)
    rw [i_SetOf_l0]
    by_cases c : r.name = nm <;> by_cases c' : r.ty = k <;> simp [i_SetOf_j1, c, c', h2, setOf] <;> first
      | (rw [grd_pos (by omega), h1]; simp [setOf, c, c'])

theorem i_SetOf_eq {l : List Rec} {nm : ByteArray} {k : Int} (h : l.length ≤ 1099511627776) : i_SetOf l nm k = some (setOf l nm k) := by
  unfold i_SetOf; rw [i_SetOf_l0_eq _ _ _ _ _ (by simpa using h)]; rfl

theorem s_SetOf_l0_eq (nm : ByteArray) (k : Int) : ∀ (l out : List Rec) (i : Nat), out.length + l.length ≤ 1099511627776 → s_SetOf_l0 nm k l out i = some (out ++ setOf l nm k)
  | [], out, i, _ => by simp [s_SetOf_l0, setOf]
  | r :: l, out, i, h => by
    simp only [List.length_cons] at h
    have h1 := s_SetOf_l0_eq nm k l (out ++ [r]) (i + 1) (by simp; omega)
    have h2 := s_SetOf_l0_eq nm k l out (i + 1) (by omega)
    rw [s_SetOf_l0]
    by_cases c : r.name = nm <;> by_cases c' : r.ty = k <;> simp [s_SetOf_j1, c, c', h2, setOf] <;> first
      | (rw [grd_pos (by omega), h1]; simp [setOf, c, c'])

theorem s_SetOf_eq {l : List Rec} {nm : ByteArray} {k : Int} (h : l.length ≤ 1099511627776) : s_SetOf l nm k = some (setOf l nm k) := by
  unfold s_SetOf; rw [s_SetOf_l0_eq _ _ _ _ _ (by simpa using h)]; rfl

def aliasIn (m : MMsg) : Rec × Bool := match setOf m.an m.q.name 5 with | [] => (zrec, false) | r :: _ => (r, true)

theorem i_AliasIn_eq {m : MMsg} (h : m.an.length ≤ 1099511627776) : i_AliasIn m = some (aliasIn m) := by
  unfold i_AliasIn aliasIn
  rw [i_SetOf_eq h, bnd1_mk]
  cases setOf m.an m.q.name 5 with
  | nil => rfl
  | cons r l => simp [idx_zero, int_succ_ne]

theorem s_AliasIn_eq {m : MMsg} (h : m.an.length ≤ 1099511627776) : s_AliasIn m = some (aliasIn m) := by
  unfold s_AliasIn aliasIn
  rw [s_SetOf_eq h, bnd1_mk]
  cases setOf m.an m.q.name 5 with
  | nil => rfl
  | cons r l => simp [idx_zero, int_succ_ne]

theorem law_AliasIn {m : MMsg} (hm : m.ok) : w_FnExactAliasIn m = some true := by
  obtain ⟨v, h3, h4, h5⟩ := w_szMsg_p hm (n := 1048576) (by omega)
  unfold w_FnExactAliasIn
  rw [h3]
  by_cases c : v < 0
  · simp [c]
  · have h6 := h5 (by omega)
    have ht : w_toMsg m = some m := w_toMsg_eq (by omega) (by omega) (by omega)
    obtain ⟨a, b⟩ : Rec × Bool := aliasIn m
    have h1 := s_AliasIn_eq (m := m) (by omega)
    have h2 := i_AliasIn_eq (m := m) (by omega)
    generalize aliasIn m = x at h1 h2
    obtain ⟨x, y⟩ := x
    simp [c, ht, h1, h2, w_eqRecord_self, w_eqMsg_self, w_FnExactAliasIn_j0]
end Go.Abs.M
