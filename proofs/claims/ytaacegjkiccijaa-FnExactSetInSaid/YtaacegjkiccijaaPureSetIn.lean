/- The pure law of SetIn: its pure function answers true. -/
import Derived.Test.YtaacegjkiccijaaFnsSetIn
namespace Go.Abs.M
open Go Go.Abs
theorem idx_nat {α : Type} {l : List α} {n : Nat} : idx l (n : Int) = l[n]? := by simp [idx]

theorem w_toRecord_eq {r : Rec} : w_toRecord r = some r := rfl

theorem w_toRecordS_l0_eq : ∀ (t pre : List Rec) (z : List Rec), z.length = t.length → w_toRecordS_l0 t (pre ++ z) pre.length = some (pre ++ t)
  | [], pre, z, hz => by cases z with | nil => rfl | cons a b => simp at hz
  | r :: t, pre, z, hz => by
    cases z with
    | nil => simp at hz
    | cons a z =>
      rw [w_toRecordS_l0]
      have := w_toRecordS_l0_eq t (pre ++ [r]) z (by simpa using hz)
      simp only [w_toRecord_eq, bnd1_mk, idx_nat]
      simp [bnd1] at this ⊢
      simpa using this

theorem w_toRecordS_eq {l : List Rec} (h : l.length ≤ 1099511627776) : w_toRecordS l = some l := by
  unfold w_toRecordS
  rw [grd_pos (by omega)]
  have := w_toRecordS_l0_eq l [] (List.replicate l.length ⟨⟨#[]⟩, 0, 0, 0, ⟨#[]⟩, ⟨#[]⟩⟩) (by simp)
  simpa using this

theorem w_eqRecord_self {a : Rec} : w_eqRecord a a = some true := by unfold w_eqRecord; simp

theorem w_eqRecordS_l0_self : ∀ (t pre : List Rec), w_eqRecordS_l0 (pre ++ t) t pre.length = some true
  | [], pre => rfl
  | r :: t, pre => by
    rw [w_eqRecordS_l0]
    have := w_eqRecordS_l0_self t (pre ++ [r])
    simp only [idx_nat]
    simp [w_eqRecord_self] at this ⊢
    exact this

theorem w_eqRecordS_self {l : List Rec} : w_eqRecordS l l = some true := by
  unfold w_eqRecordS
  have := w_eqRecordS_l0_self l []
  simpa using this

def zrec : Rec := ⟨⟨#[]⟩, 0, 0, 0, ⟨#[]⟩, ⟨#[]⟩⟩

def first (p : Rec → Bool) (l : List Rec) : Rec := (l.find? p).getD zrec

theorem w_toQuest_eq {q : Quest} : w_toQuest q = some q := rfl

theorem w_eqQuest_self {q : Quest} : w_eqQuest q q = some true := by unfold w_eqQuest; simp

theorem w_eqMsg_self {m : MMsg} : w_eqMsg m m = some true := by unfold w_eqMsg; simp [w_eqRecordS_self, w_eqQuest_self]

def setOf (l : List Rec) (nm : ByteArray) (k : Int) : List Rec := l.filter fun r => decide (r.name = nm) && decide (r.ty = k)

theorem setOf_len (l : List Rec) (nm : ByteArray) (k : Int) : (setOf l nm k).length ≤ l.length := List.length_filter_le ..

theorem i_SetOf_l0_eq (nm : ByteArray) (k : Int) : ∀ (l out : List Rec) (i : Nat), out.length + l.length ≤ 1099511627776 → i_SetOf_l0 nm k l out i = some (out ++ setOf l nm k)
  | [], out, i, _ => by simp [i_SetOf_l0, setOf]
  | r :: l, out, i, h => by
    simp only [List.length_cons] at h
    have h1 := i_SetOf_l0_eq nm k l (out ++ [r]) (i + 1) (by simp; omega)
    have h2 := i_SetOf_l0_eq nm k l out (i + 1) (by omega)
    rw [i_SetOf_l0]
    by_cases c : r.name = nm <;> by_cases c' : r.ty = k <;> simp [i_SetOf_j1, c, c', h2, setOf] <;> first
      | (rw [grd_pos (by omega), h1]; simp [setOf, c, c'])

theorem s_SetOf_l0_eq (nm : ByteArray) (k : Int) : ∀ (l out : List Rec) (i : Nat), out.length + l.length ≤ 1099511627776 → s_SetOf_l0 nm k l out i = some (out ++ setOf l nm k)
  | [], out, i, _ => by simp [s_SetOf_l0, setOf]
  | r :: l, out, i, h => by
    simp only [List.length_cons] at h
    have h1 := s_SetOf_l0_eq nm k l (out ++ [r]) (i + 1) (by simp; omega)
    have h2 := s_SetOf_l0_eq nm k l out (i + 1) (by omega)
    rw [s_SetOf_l0]
    by_cases c : r.name = nm <;> by_cases c' : r.ty = k <;> simp [s_SetOf_j1, c, c', h2, setOf] <;> first
      | (rw [grd_pos (by omega), h1]; simp [setOf, c, c'])

def Rec.sm (r : Rec) : Prop := r.name.size ≤ 1048576 ∧ r.host.size ≤ 1048576 ∧ r.text.size ≤ 1048576

def smL (l : List Rec) : Prop := l.length ≤ 1048576 ∧ ∀ r, r ∈ l → r.sm

def okL (l : List Rec) : Prop := l.length ≤ 9223372036854775807 ∧ ∀ r, r ∈ l → r.ok

theorem w_szRecord_p {r : Rec} {n : Int} (hr : r.ok) (hn : 0 ≤ n ∧ n ≤ 1048576) : ∃ v, w_szRecord r n = some v ∧ v ≤ n ∧ (0 ≤ v → r.sm) := by
  obtain ⟨h1, -, -, -, h2, h3⟩ := hr
  unfold w_szRecord Rec.sm
  rw [grd_pos (by simp only [i64]; omega)]
  by_cases c1 : n - (r.name.size : Int) < 0
  · exact ⟨-1, by simp [c1], by omega, by omega⟩
  · simp only [c1, decide_false, cond_false]
    rw [grd_pos (by simp only [i64]; omega)]
    by_cases c2 : n - (r.name.size : Int) - (r.host.size : Int) < 0
    · exact ⟨-1, by simp [c2], by omega, by omega⟩
    · simp only [c2, decide_false, cond_false]
      rw [grd_pos (by simp only [i64]; omega)]
      by_cases c3 : n - (r.name.size : Int) - (r.host.size : Int) - (r.text.size : Int) < 0
      · exact ⟨-1, by simp [c3], by omega, by omega⟩
      · exact ⟨_, by simp only [c3, decide_false, cond_false]; rfl, by omega, by omega⟩

theorem w_szRecordS_l0_p : ∀ (l : List Rec) (n : Int) (i : Nat), (∀ r, r ∈ l → r.ok) → 0 ≤ n ∧ n ≤ 1048576 → ∃ v, w_szRecordS_l0 l n i = some v ∧ v ≤ n ∧ (0 ≤ v → ∀ r, r ∈ l → r.sm)
  | [], n, i, _, _ => ⟨n, rfl, Int.le_refl _, fun _ r hr => by cases hr⟩
  | r :: l, n, i, hr, hn => by
    obtain ⟨v, h1, h2, h2'⟩ := w_szRecord_p (hr r (.head _)) hn
    rw [w_szRecordS_l0, h1]
    by_cases c : v < 0
    · exact ⟨-1, by simp [c], by omega, by omega⟩
    · obtain ⟨w, h3, h4, h5⟩ := w_szRecordS_l0_p l v (i + 1) (fun q hq => hr q (.tail _ hq)) (by omega)
      exact ⟨w, by simp [c, h3], by omega, fun h q hq => by
        cases hq with
        | head => exact h2' (by omega)
        | tail _ hq => exact h5 h q hq⟩

theorem w_szRecordS_p {l : List Rec} {n : Int} (hl : okL l) (hn : 0 ≤ n ∧ n ≤ 1048576) : ∃ v, w_szRecordS l n = some v ∧ v ≤ n ∧ (0 ≤ v → smL l) := by
  obtain ⟨h0, hr⟩ := hl
  unfold w_szRecordS
  rw [grd_pos (by simp only [i64]; omega)]
  by_cases c : n - (l.length : Int) < 0
  · exact ⟨-1, by simp [c], by omega, by omega⟩
  · obtain ⟨v, h1, h2, h3⟩ := w_szRecordS_l0_p l (n - l.length) 0 hr (by omega)
    exact ⟨v, by simp [c, h1], by omega, fun h => ⟨by omega, h3 h⟩⟩

def Quest.sm (q : Quest) : Prop := q.name.size ≤ 1048576

theorem w_szQuest_p {q : Quest} {n : Int} (hq : q.ok) (hn : 0 ≤ n ∧ n ≤ 1048576) : ∃ v, w_szQuest q n = some v ∧ v ≤ n ∧ (0 ≤ v → q.sm) := by
  obtain ⟨h1, -⟩ := hq
  unfold w_szQuest Quest.sm
  rw [grd_pos (by simp only [i64]; omega)]
  by_cases c1 : n - (q.name.size : Int) < 0
  · exact ⟨-1, by simp [c1], by omega, by omega⟩
  · exact ⟨_, by simp only [c1, decide_false, cond_false]; rfl, by omega, by omega⟩

def MMsg.sm (m : MMsg) : Prop := m.q.sm ∧ smL m.an ∧ smL m.au ∧ smL m.ad

theorem w_szMsg_p {m : MMsg} {n : Int} (hm : m.ok) (hn : 0 ≤ n ∧ n ≤ 1048576) : ∃ v, w_szMsg m n = some v ∧ v ≤ n ∧ (0 ≤ v → m.sm) := by
  obtain ⟨-, -, h3, h4, h5, h6⟩ := hm
  unfold w_szMsg
  obtain ⟨a, a1, a2, a3⟩ := w_szQuest_p h3 hn
  by_cases c : a < 0
  · exact ⟨-1, by simp [a1, c], by omega, by omega⟩
  obtain ⟨b, b1, b2, b3⟩ := w_szRecordS_p h4 (n := a) (by omega)
  by_cases c' : b < 0
  · exact ⟨-1, by simp [a1, c, b1, c'], by omega, by omega⟩
  obtain ⟨d, d1, d2, d3⟩ := w_szRecordS_p h5 (n := b) (by omega)
  by_cases c2 : d < 0
  · exact ⟨-1, by simp [a1, c, b1, c', d1, c2], by omega, by omega⟩
  obtain ⟨e, e1, e2, e3⟩ := w_szRecordS_p h6 (n := d) (by omega)
  by_cases c3 : e < 0
  · exact ⟨-1, by simp [a1, c, b1, c', d1, c2, e1, c3], by omega, by omega⟩
  · exact ⟨e, by simp [a1, c, b1, c', d1, c2, e1, c3], by omega, fun _ => ⟨a3 (by omega), b3 (by omega), d3 (by omega), e3 (by omega)⟩⟩

theorem w_toMsg_eq {m : MMsg} (h : m.sm) : w_toMsg m = some m := by
  unfold w_toMsg; simp [w_toQuest_eq, w_toRecordS_eq (Nat.le_trans h.2.1.1 (by decide)), w_toRecordS_eq (Nat.le_trans h.2.2.1.1 (by decide)), w_toRecordS_eq (Nat.le_trans h.2.2.2.1 (by decide))]

theorem setOf_sm {l : List Rec} (h : smL l) (nm : ByteArray) (k : Int) : smL (setOf l nm k) := ⟨Nat.le_trans (setOf_len l nm k) h.1, fun r hr => h.2 r ((List.mem_filter.1 hr).1)⟩

theorem i_SetOf_eq {l : List Rec} {nm : ByteArray} {k : Int} (h : smL l) : i_SetOf l nm k = some (setOf l nm k) := by
  unfold i_SetOf; rw [i_SetOf_l0_eq _ _ _ _ _ (by have := h.1; simp; omega)]; rfl

theorem s_SetOf_eq {l : List Rec} {nm : ByteArray} {k : Int} (h : smL l) : s_SetOf l nm k = some (setOf l nm k) := by
  unfold s_SetOf; rw [s_SetOf_l0_eq _ _ _ _ _ (by have := h.1; simp; omega)]; rfl

theorem w_markText_l0_some : ∀ (k fl : Nat) (n : Int) (s : ByteArray), 0 ≤ n → n.toNat ≤ k → k < fl → (s.size : Int) + n ≤ 4611686018427387904 → ∃ t, w_markText_l0 fl n s = some t
  | k, fl, n, s, h0, hk, hf, hs => by
    obtain ⟨fl, rfl⟩ : ∃ q, fl = q + 1 := ⟨fl - 1, by omega⟩
    rw [w_markText_l0]
    have e1 : (⟨#[109]⟩ : ByteArray).size = 1 := rfl
    by_cases c : 0 < n
    · have e2 : ∀ x, (strOfNums [x]).size = 1 := fun _ => rfl
      have e3 : Int.tmod n 10 = n % 10 := Int.tmod_eq_emod_of_nonneg h0
      have e4 : Int.tdiv n 10 = n / 10 := Int.tdiv_eq_ediv_of_nonneg h0
      rw [decide_eq_true c, cond_true, grd_pos (by simp only [i64]; omega), grd_pos (by rw [e2]; omega), e4, wrap_id (by omega)]
      cases k with
      | zero => omega
      | succ k => exact w_markText_l0_some k fl (n / 10) _ (by omega) (by omega) (by omega) (by rw [ByteArray.size_append, e2]; omega)
    · rw [decide_eq_false c, cond_false, grd_pos (by rw [e1]; omega)]
      exact ⟨_, rfl⟩

def mkT (n : Int) : ByteArray := (w_markText n).getD ⟨#[]⟩

theorem w_markText_eq {n : Int} (h : n ≤ 4611686018427387900) : w_markText n = some (mkT n) := by
  have : ∃ t, w_markText n = some t := by
    unfold w_markText
    by_cases c : n ≤ 0
    · rw [decide_eq_true c]; exact ⟨_, rfl⟩
    · rw [decide_eq_false c, cond_false]
      exact w_markText_l0_some n.toNat fuel0 n _ (by omega) (Nat.le_refl _) (by unfold fuel0; omega) (by have : (⟨#[]⟩ : ByteArray).size = 0 := rfl; rw [this]; omega)
  obtain ⟨t, h1⟩ := this
  unfold mkT
  rw [h1]; rfl

theorem set_app {α : Type} (pre t : List α) (x y : α) : (pre ++ x :: t).set pre.length y = pre ++ y :: t := by simp

theorem get_app {α : Type} (pre t : List α) (x : α) : (pre ++ x :: t)[pre.length]? = some x := by simp

def mkR (n : Int) : Rec := ⟨mkT n, n + 1, n + 1 + 1, n + 1 + 1 + 1, mkT (n + 1 + 1 + 1 + 1), mkT (n + 1 + 1 + 1 + 1 + 1)⟩

def mkL : List Rec → Int → List Rec
  | [], _ => []
  | _ :: l, n => mkR n :: mkL l (n + 1 + 1 + 1 + 1 + 1 + 1)

theorem mkL_len : ∀ (l : List Rec) (n : Int), (mkL l n).length = l.length
  | [], _ => rfl
  | _ :: l, n => by simp [mkL, mkL_len l]

theorem w_markRecordS_l0_eq : ∀ (t pre : List Rec) (n : Int) (fl : Nat), t.length < fl → 0 ≤ n → n + 6 * t.length ≤ 4611686018427387800 → pre.length + t.length ≤ 1099511627776 →
    w_markRecordS_l0 fl (pre ++ t) n (pre.length : Int) = some (n + 6 * t.length, pre ++ mkL t n)
  | [], pre, n, fl, hf, h0, hn, hl => by
    obtain ⟨fl, rfl⟩ : ∃ q, fl = q + 1 := ⟨fl - 1, by simp at hf; omega⟩
    rw [w_markRecordS_l0]
    simp [mkL]
  | r :: t, pre, n, fl, hf, h0, hn, hl => by
    simp only [List.length_cons] at hf hn hl
    obtain ⟨fl, rfl⟩ : ∃ q, fl = q + 1 := ⟨fl - 1, by omega⟩
    have c : decide ((pre.length : Int) < ((pre ++ r :: t).length : Int)) = true := by simp; omega
    have e : ((pre.length : Int) + 1) = (((pre ++ [mkR n]).length : Nat) : Int) := by simp
    rw [w_markRecordS_l0, c, cond_true, w_markText_eq (by omega), bnd1_mk, idx_nat, get_app, bnd1_mk, grd_pos (by simp only [i64]; omega), grd_pos (by simp only [i64]; omega), grd_pos (by simp only [i64]; omega), grd_pos (by simp only [i64]; omega),
      w_markText_eq (by omega), bnd1_mk, grd_pos (by simp only [i64]; omega), w_markText_eq (by omega), bnd1_mk, grd_pos (by simp only [i64]; omega), grd_pos (by simp only [i64]; omega), Int.toNat_natCast]
    simp only [set_app]
    have h := w_markRecordS_l0_eq t (pre ++ [mkR n]) (n + 1 + 1 + 1 + 1 + 1 + 1) fl (by omega) (by omega) (by omega) (by simp; omega)
    rw [List.append_assoc, List.singleton_append] at h
    rw [e]
    unfold mkR at h ⊢
    rw [h, mkL]
    simp only [List.append_assoc, List.singleton_append, List.length_cons]
    congr 2
    omega

theorem w_markRecordS_eq {l : List Rec} {n : Int} (h0 : 0 ≤ n) (hn : n + 6 * l.length ≤ 4611686018427387800) (hl : l.length ≤ 1099511627776) : w_markRecordS l n = some (n + 6 * l.length, mkL l n) := by
  have := w_markRecordS_l0_eq l [] n fuel0 (by unfold fuel0; omega) h0 hn (by simpa using hl)
  simpa [w_markRecordS] using this

theorem w_heldRecordS_l0_eq : ∀ (t : List Rec) (n : Int) (i : Nat), 0 ≤ n → n + 6 * t.length ≤ 4611686018427387800 → w_heldRecordS_l0 (mkL t n) n i = some (n + 6 * t.length)
  | [], n, i, _, _ => by simp [mkL, w_heldRecordS_l0]
  | r :: t, n, i, h0, hn => by
    simp only [List.length_cons] at hn
    have h := w_heldRecordS_l0_eq t (n + 1 + 1 + 1 + 1 + 1 + 1) (i + 1) (by omega) (by omega)
    rw [mkL, w_heldRecordS_l0, w_markText_eq (by omega), bnd1_mk]
    simp only [mkR, decide_true, Bool.not_true, cond_false]
    rw [grd_pos (by simp only [i64]; omega), grd_pos (by simp only [i64]; omega), grd_pos (by simp only [i64]; omega), grd_pos (by simp only [i64]; omega), w_markText_eq (by omega), bnd1_mk]
    simp only [decide_true, Bool.not_true, cond_false]
    rw [grd_pos (by simp only [i64]; omega), w_markText_eq (by omega), bnd1_mk]
    simp only [decide_true, Bool.not_true, cond_false]
    rw [grd_pos (by simp only [i64]; omega), h]
    congr 1
    simp only [List.length_cons]
    omega

theorem w_heldRecordS_eq {l : List Rec} {n : Int} (h0 : 0 ≤ n) (hn : n + 6 * l.length ≤ 4611686018427387800) : w_heldRecordS (mkL l n) n = some (n + 6 * l.length) := w_heldRecordS_l0_eq l n 0 h0 hn

theorem w_markMsg_eq {m : MMsg} (h : m.sm) : ∃ a b c d, w_markMsg m 1 = some (a, b, c, d) ∧ 0 ≤ a ∧ b.length = m.an.length ∧ c.length = m.au.length ∧ d.length = m.ad.length := by
  obtain ⟨-, ⟨h1, -⟩, ⟨h2, -⟩, ⟨h3, -⟩⟩ := h
  unfold w_markMsg
  rw [w_markRecordS_eq (by omega) (by omega) (by omega), bnd2_mk, grd_pos (mkL_len _ _), w_markRecordS_eq (by omega) (by omega) (by omega), bnd2_mk, grd_pos (mkL_len _ _), w_markRecordS_eq (by omega) (by omega) (by omega), bnd2_mk, grd_pos (mkL_len _ _)]
  exact ⟨_, _, _, _, rfl, by omega, mkL_len _ _, mkL_len _ _, mkL_len _ _⟩

theorem s_SetIn_eq {m : MMsg} (h : m.sm) : s_SetIn m = some (setOf m.an m.q.name m.q.ty) := by unfold s_SetIn; rw [s_SetOf_eq h.2.1]; rfl

theorem i_SetIn_eq {m : MMsg} (h : m.sm) : i_SetIn m = some (setOf m.an m.q.name m.q.ty) := by unfold i_SetIn; rw [i_SetOf_eq h.2.1]; rfl

theorem law_SetIn {m : MMsg} (hm : m.ok) : w_FnExactSetIn m = some true := by
  unfold w_FnExactSetIn
  obtain ⟨v, h3, h4, h5⟩ := w_szMsg_p hm (n := 1048576) (by omega)
  rw [h3]
  by_cases c : v < 0
  · simp [c]
  · have h6 := h5 (by omega)
    have hl := (setOf_sm h6.2.1 m.q.name m.q.ty).1
    obtain ⟨a, b, d, e, k1, k2, k3, k4, k5⟩ := w_markMsg_eq h6
    have c2 : ¬ (a < 0) := by omega
    have c3 : ¬ ((1 : Int) + 6 * ((setOf m.an m.q.name m.q.ty).length : Int) < 0) := by omega
    simp [c, w_toMsg_eq h6, s_SetIn_eq h6, i_SetIn_eq h6, w_eqMsg_self, w_eqRecordS_self, k1, k3, k4, k5, grd_pos, c2, w_FnExactSetIn_j0,
      w_markRecordS_eq (l := setOf m.an m.q.name m.q.ty) (n := 1) (by omega) (by omega) (by omega), mkL_len, w_heldRecordS_eq (l := setOf m.an m.q.name m.q.ty) (n := 1) (by omega) (by omega), c3]
end Go.Abs.M
