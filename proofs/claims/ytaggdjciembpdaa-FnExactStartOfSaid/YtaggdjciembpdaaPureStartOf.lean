/- The pure law of StartOf: its pure function answers true. -/
import Derived.Test.YtaggdjciembpdaaFnsStartOf
namespace Go.Abs.M
open Go Go.Abs
theorem idx_nat {α : Type} {l : List α} {n : Nat} : idx l (n : Int) = l[n]? := by simp [idx]

def okL (l : List Rec) : Prop := l.length ≤ 9223372036854775807 ∧ ∀ r, r ∈ l → r.ok

theorem w_szRecord_p {r : Rec} {n : Int} (hr : r.ok) (hn : 0 ≤ n ∧ n ≤ 1048576) : ∃ v, w_szRecord r n = some v ∧ v ≤ n := by
  obtain ⟨h1, -, -, -, h2, h3⟩ := hr
  unfold w_szRecord
  rw [grd_pos (by simp only [i64]; omega)]
  by_cases c1 : n - (r.name.size : Int) < 0
  · exact ⟨-1, by simp [c1], by omega⟩
  · simp only [c1, decide_false, cond_false]
    rw [grd_pos (by simp only [i64]; omega)]
    by_cases c2 : n - (r.name.size : Int) - (r.host.size : Int) < 0
    · exact ⟨-1, by simp [c2], by omega⟩
    · simp only [c2, decide_false, cond_false]
      rw [grd_pos (by simp only [i64]; omega)]
      by_cases c3 : n - (r.name.size : Int) - (r.host.size : Int) - (r.text.size : Int) < 0
      · exact ⟨-1, by simp [c3], by omega⟩
      · exact ⟨_, by simp only [c3, decide_false, cond_false]; rfl, by omega⟩

theorem w_szRecordS_l0_p : ∀ (l : List Rec) (n : Int) (i : Nat), (∀ r, r ∈ l → r.ok) → 0 ≤ n ∧ n ≤ 1048576 → ∃ v, w_szRecordS_l0 l n i = some v ∧ v ≤ n
  | [], n, i, _, _ => ⟨n, rfl, Int.le_refl _⟩
  | r :: l, n, i, hr, hn => by
    obtain ⟨v, h1, h2⟩ := w_szRecord_p (hr r (.head _)) hn
    rw [w_szRecordS_l0, h1]
    by_cases c : v < 0
    · exact ⟨-1, by simp [c], by omega⟩
    · obtain ⟨w, h3, h4⟩ := w_szRecordS_l0_p l v (i + 1) (fun q hq => hr q (.tail _ hq)) (by omega)
      exact ⟨w, by simp [c, h3], by omega⟩

theorem w_szRecordS_p {l : List Rec} {n : Int} (hl : okL l) (hn : 0 ≤ n ∧ n ≤ 1048576) : ∃ v, w_szRecordS l n = some v ∧ v ≤ n ∧ (0 ≤ v → (l.length : Int) ≤ n) := by
  obtain ⟨h0, hr⟩ := hl
  unfold w_szRecordS
  rw [grd_pos (by simp only [i64]; omega)]
  by_cases c : n - (l.length : Int) < 0
  · exact ⟨-1, by simp [c], by omega, by omega⟩
  · obtain ⟨v, h1, h2⟩ := w_szRecordS_l0_p l (n - l.length) 0 hr (by omega)
    exact ⟨v, by simp [c, h1], by omega, by omega⟩

theorem w_toRecord_eq {r : Rec} : w_toRecord r = some r := rfl

theorem w_toRecordS_l0_eq : ∀ (t pre : List Rec) (z : List Rec), z.length = t.length → w_toRecordS_l0 t (pre ++ z) pre.length = some (pre ++ t)
  | [], pre, z, hz => by cases z with | nil => rfl | cons a b => simp at hz
  | r :: t, pre, z, hz => by
    cases z with
    | nil => simp at hz
    | cons a z =>
      rw [w_toRecordS_l0]
      have := w_toRecordS_l0_eq t (pre ++ [r]) z (by simpa using hz)
      simp only [w_toRecord_eq, bnd1_mk, idx_nat]
      simp [bnd1] at this ⊢
      simpa using this

theorem w_toRecordS_eq {l : List Rec} (h : l.length ≤ 1099511627776) : w_toRecordS l = some l := by
  unfold w_toRecordS
  rw [grd_pos (by omega)]
  have := w_toRecordS_l0_eq l [] (List.replicate l.length ⟨⟨#[]⟩, 0, 0, 0, ⟨#[]⟩, ⟨#[]⟩⟩) (by simp)
  simpa using this

theorem w_eqRecord_self {a : Rec} : w_eqRecord a a = some true := by unfold w_eqRecord; simp

theorem w_eqRecordS_l0_self : ∀ (t pre : List Rec), w_eqRecordS_l0 (pre ++ t) t pre.length = some true
  | [], pre => rfl
  | r :: t, pre => by
    rw [w_eqRecordS_l0]
    have := w_eqRecordS_l0_self t (pre ++ [r])
    simp only [idx_nat]
    simp [w_eqRecord_self] at this ⊢
    exact this

theorem w_eqRecordS_self {l : List Rec} : w_eqRecordS l l = some true := by
  unfold w_eqRecordS
  have := w_eqRecordS_l0_self l []
  simpa using this

theorem w_szZone_p {z : MZone} {n : Int} (h1 : z.apex.size ≤ 9223372036854775807) (h2 : okL z.l) (hn : 0 ≤ n ∧ n ≤ 1048576) : ∃ v, w_szZone z n = some v ∧ v ≤ n ∧ (0 ≤ v → (z.l.length : Int) ≤ n) := by
  unfold w_szZone
  rw [grd_pos (by simp only [i64]; omega)]
  by_cases c : n - (z.apex.size : Int) < 0
  · exact ⟨-1, by simp [c], by omega, by omega⟩
  · obtain ⟨v, h3, h4, h5⟩ := w_szRecordS_p h2 (n := n - z.apex.size) (by omega)
    by_cases c' : v < 0
    · exact ⟨-1, by simp [c, h3, c'], by omega, by omega⟩
    · exact ⟨v, by simp [c, h3, c'], by omega, by omega⟩

theorem w_toZone_eq {z : MZone} (h : z.l.length ≤ 1099511627776) : w_toZone z = some z := by
  unfold w_toZone; rw [w_toRecordS_eq h]; rfl

theorem w_eqZone_self {z : MZone} : w_eqZone z z = some true := by unfold w_eqZone; simp [w_eqRecordS_self]

def zrec : Rec := ⟨⟨#[]⟩, 0, 0, 0, ⟨#[]⟩, ⟨#[]⟩⟩

def first (p : Rec → Bool) (l : List Rec) : Rec := (l.find? p).getD zrec

theorem s_StartOf_l1_eq : ∀ (l : List Rec) (i : Nat), s_StartOf_l1 l i = some (first (fun r => decide (r.ty = 6)) l)
  | [], i => rfl
  | r :: l, i => by
    rw [s_StartOf_l1, s_StartOf_l1_eq l (i + 1)]
    by_cases c : r.ty = 6 <;> simp [first, c]

theorem s_StartOf_eq {z : MZone} : s_StartOf z = some (first (fun r => decide (r.ty = 6)) z.l) := s_StartOf_l1_eq _ _

theorem i_firstOf_l1_eq : ∀ (l : List Rec) (k : Int) (i : Nat), i_firstOf_l1 k l i = some (first (fun r => decide (r.ty = k)) l)
  | [], k, i => rfl
  | r :: l, k, i => by
    rw [i_firstOf_l1, i_firstOf_l1_eq l k (i + 1)]
    by_cases c : r.ty = k <;> simp [first, c]

theorem i_firstOf_eq {l : List Rec} {k : Int} : i_firstOf l k = some (first (fun r => decide (r.ty = k)) l) := i_firstOf_l1_eq _ _ _

theorem i_StartOf_eq {z : MZone} : i_StartOf z = some (first (fun r => decide (r.ty = 6)) z.l) := by unfold i_StartOf; rw [i_firstOf_eq]; rfl

theorem law_StartOf {z : MZone} (hz : z.ok) : w_FnExactStartOf z = some true := by
  obtain ⟨h1, h2⟩ := hz
  obtain ⟨v, h3, h4, h5⟩ := w_szZone_p h1 h2 (n := 1048576) (by omega)
  unfold w_FnExactStartOf
  rw [h3]
  by_cases c : v < 0
  · simp [c]
  · have h6 := h5 (by omega)
    have ht : w_toZone z = some z := w_toZone_eq (by omega)
    simp [c, ht, s_StartOf_eq, i_StartOf_eq, w_eqRecord_self, w_eqZone_self]
end Go.Abs.M
