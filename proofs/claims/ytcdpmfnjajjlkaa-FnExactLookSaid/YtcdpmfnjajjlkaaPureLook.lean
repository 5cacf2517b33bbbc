/- The pure law of Look: its pure function answers true. -/
import Derived.Test.YtcdpmfnjajjlkaaFnsLook
set_option linter.unusedSimpArgs false
set_option linter.unusedVariables false
namespace Go.Abs.M
open Go Go.Abs
theorem idx_nat {α : Type} {l : List α} {n : Nat} : idx l (n : Int) = l[n]? := by simp [idx]

theorem w_toRecord_eq {r : Rec} : w_toRecord r = some r := rfl

theorem w_toRecordS_l0_eq : ∀ (t pre : List Rec) (z : List Rec), z.length = t.length → w_toRecordS_l0 t (pre ++ z) pre.length = some (pre ++ t)
  | [], pre, z, hz => by cases z with | nil => rfl | cons a b => simp at hz
  | r :: t, pre, z, hz => by
    cases z with
    | nil => simp at hz
    | cons a z =>
      rw [w_toRecordS_l0]
      have := w_toRecordS_l0_eq t (pre ++ [r]) z (by simpa using hz)
      simp only [w_toRecord_eq, bnd1_mk, idx_nat]
      simp [bnd1] at this ⊢
      simpa using this

theorem w_toRecordS_eq {l : List Rec} (h : l.length ≤ 1099511627776) : w_toRecordS l = some l := by
  unfold w_toRecordS
  rw [grd_pos (by omega)]
  have := w_toRecordS_l0_eq l [] (List.replicate l.length ⟨⟨#[]⟩, 0, 0, 0, ⟨#[]⟩, ⟨#[]⟩⟩) (by simp)
  simpa using this

theorem w_eqRecord_self {a : Rec} : w_eqRecord a a = some true := by unfold w_eqRecord; simp

theorem w_eqRecordS_l0_self : ∀ (t pre : List Rec), w_eqRecordS_l0 (pre ++ t) t pre.length = some true
  | [], pre => rfl
  | r :: t, pre => by
    rw [w_eqRecordS_l0]
    have := w_eqRecordS_l0_self t (pre ++ [r])
    simp only [idx_nat]
    simp [w_eqRecord_self] at this ⊢
    exact this

theorem w_eqRecordS_self {l : List Rec} : w_eqRecordS l l = some true := by
  unfold w_eqRecordS
  have := w_eqRecordS_l0_self l []
  simpa using this

theorem w_toQuest_eq {q : Quest} : w_toQuest q = some q := rfl

theorem w_eqQuest_self {q : Quest} : w_eqQuest q q = some true := by unfold w_eqQuest; simp

def Rec.sm (r : Rec) : Prop := r.name.size ≤ 1048576 ∧ r.host.size ≤ 1048576 ∧ r.text.size ≤ 1048576

def smL (l : List Rec) : Prop := l.length ≤ 1048576 ∧ ∀ r, r ∈ l → r.sm

def okL (l : List Rec) : Prop := l.length ≤ 9223372036854775807 ∧ ∀ r, r ∈ l → r.ok

theorem w_szRecord_p {r : Rec} {n : Int} (hr : r.ok) (hn : 0 ≤ n ∧ n ≤ 1048576) : ∃ v, w_szRecord r n = some v ∧ v ≤ n ∧ (0 ≤ v → r.sm) := by
  obtain ⟨h1, -, -, -, h2, h3⟩ := hr
  unfold w_szRecord Rec.sm
  rw [grd_pos (by simp only [i64]; omega)]
  by_cases c1 : n - (r.name.size : Int) < 0
  · exact ⟨-1, by simp [c1], by omega, by omega⟩
  · simp only [c1, decide_false, cond_false]
    rw [grd_pos (by simp only [i64]; omega)]
    by_cases c2 : n - (r.name.size : Int) - (r.host.size : Int) < 0
    · exact ⟨-1, by simp [c2], by omega, by omega⟩
    · simp only [c2, decide_false, cond_false]
      rw [grd_pos (by simp only [i64]; omega)]
      by_cases c3 : n - (r.name.size : Int) - (r.host.size : Int) - (r.text.size : Int) < 0
      · exact ⟨-1, by simp [c3], by omega, by omega⟩
      · exact ⟨_, by simp only [c3, decide_false, cond_false]; rfl, by omega, by omega⟩

theorem w_szRecordS_l0_p : ∀ (l : List Rec) (n : Int) (i : Nat), (∀ r, r ∈ l → r.ok) → 0 ≤ n ∧ n ≤ 1048576 → ∃ v, w_szRecordS_l0 l n i = some v ∧ v ≤ n ∧ (0 ≤ v → ∀ r, r ∈ l → r.sm)
  | [], n, i, _, _ => ⟨n, rfl, Int.le_refl _, fun _ r hr => by cases hr⟩
  | r :: l, n, i, hr, hn => by
    obtain ⟨v, h1, h2, h2'⟩ := w_szRecord_p (hr r (.head _)) hn
    rw [w_szRecordS_l0, h1]
    by_cases c : v < 0
    · exact ⟨-1, by simp [c], by omega, by omega⟩
    · obtain ⟨w, h3, h4, h5⟩ := w_szRecordS_l0_p l v (i + 1) (fun q hq => hr q (.tail _ hq)) (by omega)
      exact ⟨w, by simp [c, h3], by omega, fun h q hq => by
        cases hq with
        | head => exact h2' (by omega)
        | tail _ hq => exact h5 h q hq⟩

theorem w_szRecordS_p {l : List Rec} {n : Int} (hl : okL l) (hn : 0 ≤ n ∧ n ≤ 1048576) : ∃ v, w_szRecordS l n = some v ∧ v ≤ n ∧ (0 ≤ v → smL l) := by
  obtain ⟨h0, hr⟩ := hl
  unfold w_szRecordS
  rw [grd_pos (by simp only [i64]; omega)]
  by_cases c : n - (l.length : Int) < 0
  · exact ⟨-1, by simp [c], by omega, by omega⟩
  · obtain ⟨v, h1, h2, h3⟩ := w_szRecordS_l0_p l (n - l.length) 0 hr (by omega)
    exact ⟨v, by simp [c, h1], by omega, fun h => ⟨by omega, h3 h⟩⟩

def Quest.sm (q : Quest) : Prop := q.name.size ≤ 1048576

theorem w_szQuest_p {q : Quest} {n : Int} (hq : q.ok) (hn : 0 ≤ n ∧ n ≤ 1048576) : ∃ v, w_szQuest q n = some v ∧ v ≤ n ∧ (0 ≤ v → q.sm) := by
  obtain ⟨h1, -⟩ := hq
  unfold w_szQuest Quest.sm
  rw [grd_pos (by simp only [i64]; omega)]
  by_cases c1 : n - (q.name.size : Int) < 0
  · exact ⟨-1, by simp [c1], by omega, by omega⟩
  · exact ⟨_, by simp only [c1, decide_false, cond_false]; rfl, by omega, by omega⟩

theorem w_markText_l0_some : ∀ (k fl : Nat) (n : Int) (s : ByteArray), 0 ≤ n → n.toNat ≤ k → k < fl → (s.size : Int) + n ≤ 4611686018427387904 → ∃ t, w_markText_l0 fl n s = some t
  | k, fl, n, s, h0, hk, hf, hs => by
    obtain ⟨fl, rfl⟩ : ∃ q, fl = q + 1 := ⟨fl - 1, by omega⟩
    rw [w_markText_l0]
    have e1 : (⟨#[109]⟩ : ByteArray).size = 1 := rfl
    by_cases c : 0 < n
    · have e2 : ∀ x, (strOfNums [x]).size = 1 := fun _ => rfl
      have e3 : Int.tmod n 10 = n % 10 := Int.tmod_eq_emod_of_nonneg h0
      have e4 : Int.tdiv n 10 = n / 10 := Int.tdiv_eq_ediv_of_nonneg h0
      rw [decide_eq_true c, cond_true, grd_pos (by simp only [i64]; omega), grd_pos (by rw [e2]; omega), e4, wrap_id (by omega)]
      cases k with
      | zero => omega
      | succ k => exact w_markText_l0_some k fl (n / 10) _ (by omega) (by omega) (by omega) (by rw [ByteArray.size_append, e2]; omega)
    · rw [decide_eq_false c, cond_false, grd_pos (by rw [e1]; omega)]
      exact ⟨_, rfl⟩

def mkT (n : Int) : ByteArray := (w_markText n).getD ⟨#[]⟩

theorem w_markText_eq {n : Int} (h : n ≤ 4611686018427387900) : w_markText n = some (mkT n) := by
  have : ∃ t, w_markText n = some t := by
    unfold w_markText
    by_cases c : n ≤ 0
    · rw [decide_eq_true c]; exact ⟨_, rfl⟩
    · rw [decide_eq_false c, cond_false]
      exact w_markText_l0_some n.toNat fuel0 n _ (by omega) (Nat.le_refl _) (by unfold fuel0; omega) (by have : (⟨#[]⟩ : ByteArray).size = 0 := rfl; rw [this]; omega)
  obtain ⟨t, h1⟩ := this
  unfold mkT
  rw [h1]; rfl

theorem set_app {α : Type} (pre t : List α) (x y : α) : (pre ++ x :: t).set pre.length y = pre ++ y :: t := by simp

theorem get_app {α : Type} (pre t : List α) (x : α) : (pre ++ x :: t)[pre.length]? = some x := by simp

def mkR (n : Int) : Rec := ⟨mkT n, n + 1, n + 1 + 1, n + 1 + 1 + 1, mkT (n + 1 + 1 + 1 + 1), mkT (n + 1 + 1 + 1 + 1 + 1)⟩

def mkL : List Rec → Int → List Rec
  | [], _ => []
  | _ :: l, n => mkR n :: mkL l (n + 1 + 1 + 1 + 1 + 1 + 1)

theorem mkL_len : ∀ (l : List Rec) (n : Int), (mkL l n).length = l.length
  | [], _ => rfl
  | _ :: l, n => by simp [mkL, mkL_len l]

theorem w_markRecordS_l0_eq : ∀ (t pre : List Rec) (n : Int) (fl : Nat), t.length < fl → 0 ≤ n → n + 6 * t.length ≤ 4611686018427387800 → pre.length + t.length ≤ 1099511627776 →
    w_markRecordS_l0 fl (pre ++ t) n (pre.length : Int) = some (n + 6 * t.length, pre ++ mkL t n)
  | [], pre, n, fl, hf, h0, hn, hl => by
    obtain ⟨fl, rfl⟩ : ∃ q, fl = q + 1 := ⟨fl - 1, by simp at hf; omega⟩
    rw [w_markRecordS_l0]
    simp [mkL]
  | r :: t, pre, n, fl, hf, h0, hn, hl => by
    simp only [List.length_cons] at hf hn hl
    obtain ⟨fl, rfl⟩ : ∃ q, fl = q + 1 := ⟨fl - 1, by omega⟩
    have c : decide ((pre.length : Int) < ((pre ++ r :: t).length : Int)) = true := by simp; omega
    have e : ((pre.length : Int) + 1) = (((pre ++ [mkR n]).length : Nat) : Int) := by simp
    rw [w_markRecordS_l0, c, cond_true, w_markText_eq (by omega), bnd1_mk, idx_nat, get_app, bnd1_mk, grd_pos (by simp only [i64]; omega), grd_pos (by simp only [i64]; omega), grd_pos (by simp only [i64]; omega), grd_pos (by simp only [i64]; omega),
      w_markText_eq (by omega), bnd1_mk, grd_pos (by simp only [i64]; omega), w_markText_eq (by omega), bnd1_mk, grd_pos (by simp only [i64]; omega), grd_pos (by simp only [i64]; omega), Int.toNat_natCast]
    simp only [set_app]
    have h := w_markRecordS_l0_eq t (pre ++ [mkR n]) (n + 1 + 1 + 1 + 1 + 1 + 1) fl (by omega) (by omega) (by omega) (by simp; omega)
    rw [List.append_assoc, List.singleton_append] at h
    rw [e]
    unfold mkR at h ⊢
    rw [h, mkL]
    simp only [List.append_assoc, List.singleton_append, List.length_cons]
    congr 2
    omega

theorem w_markRecordS_eq {l : List Rec} {n : Int} (h0 : 0 ≤ n) (hn : n + 6 * l.length ≤ 4611686018427387800) (hl : l.length ≤ 1099511627776) : w_markRecordS l n = some (n + 6 * l.length, mkL l n) := by
  have := w_markRecordS_l0_eq l [] n fuel0 (by unfold fuel0; omega) h0 hn (by simpa using hl)
  simpa [w_markRecordS] using this

theorem w_heldRecordS_l0_eq : ∀ (t : List Rec) (n : Int) (i : Nat), 0 ≤ n → n + 6 * t.length ≤ 4611686018427387800 → w_heldRecordS_l0 (mkL t n) n i = some (n + 6 * t.length)
  | [], n, i, _, _ => by simp [mkL, w_heldRecordS_l0]
  | r :: t, n, i, h0, hn => by
    simp only [List.length_cons] at hn
    have h := w_heldRecordS_l0_eq t (n + 1 + 1 + 1 + 1 + 1 + 1) (i + 1) (by omega) (by omega)
    rw [mkL, w_heldRecordS_l0, w_markText_eq (by omega), bnd1_mk]
    simp only [mkR, decide_true, Bool.not_true, cond_false]
    rw [grd_pos (by simp only [i64]; omega), grd_pos (by simp only [i64]; omega), grd_pos (by simp only [i64]; omega), grd_pos (by simp only [i64]; omega), w_markText_eq (by omega), bnd1_mk]
    simp only [decide_true, Bool.not_true, cond_false]
    rw [grd_pos (by simp only [i64]; omega), w_markText_eq (by omega), bnd1_mk]
    simp only [decide_true, Bool.not_true, cond_false]
    rw [grd_pos (by simp only [i64]; omega), h]
    congr 1
    simp only [List.length_cons]
    omega

theorem w_heldRecordS_eq {l : List Rec} {n : Int} (h0 : 0 ≤ n) (hn : n + 6 * l.length ≤ 4611686018427387800) : w_heldRecordS (mkL l n) n = some (n + 6 * l.length) := w_heldRecordS_l0_eq l n 0 h0 hn

theorem slices_Clone_Record_eq {l : List Rec} (h : l.length ≤ 1099511627776) : slices_Clone_Record l = some l := by
  unfold slices_Clone_Record
  rw [List.nil_append, grd_pos h]

def setTtl (k : Int) (r : Rec) : Rec := ⟨r.name, r.ty, k, r.n, r.host, r.text⟩

theorem i_WithTtl_l0_eq (k : Int) : ∀ (t pre : List Rec), i_WithTtl_l0 k t (pre ++ t) pre.length = some (pre ++ t.map (setTtl k))
  | [], pre => by simp [i_WithTtl_l0]
  | r :: t, pre => by
    rw [i_WithTtl_l0, idx_nat, get_app, bnd1_mk, Int.toNat_natCast, set_app]
    have h := i_WithTtl_l0_eq k t (pre ++ [setTtl k r])
    simp only [List.append_assoc, List.singleton_append, List.length_append, List.length_singleton] at h
    unfold setTtl at h ⊢
    rw [h]
    simp

theorem i_WithTtl_eq {l : List Rec} {k : Int} (h : l.length ≤ 1099511627776) : i_WithTtl l k = some (l.map (setTtl k)) := by
  unfold i_WithTtl
  rw [slices_Clone_Record_eq h, bnd1_mk]
  exact i_WithTtl_l0_eq k l []

theorem s_l7Copy_eq {l : List Rec} (h : l.length ≤ 1099511627776) : s_l7Copy l = some l := by
  unfold s_l7Copy; rw [List.nil_append, grd_pos h]

theorem fuel_lt {k : Nat} (h : k ≤ 1048576) : k < fuel0 := by unfold fuel0; omega

def MEntry.sm (x : MEntry) : Prop := x.q.sm ∧ smL x.l

theorem w_szEntry_p {x : MEntry} {n : Int} (hx : x.ok) (hn : 0 ≤ n ∧ n ≤ 1048576) : ∃ v, w_szEntry x n = some v ∧ v ≤ n ∧ (0 ≤ v → x.sm) := by
  obtain ⟨v, h3, h4, h5⟩ := w_szQuest_p hx.1 hn
  unfold w_szEntry
  rw [h3, bnd1_mk]
  by_cases c : v < 0
  · exact ⟨-1, by simp [c], by omega, by omega⟩
  obtain ⟨u, k3, k4, k5⟩ := w_szRecordS_p (l := x.l) (n := v) (by have := hx; exact ⟨this.2.2.1.1, this.2.2.1.2⟩) (by omega)
  rw [decide_eq_false c, cond_false, k3, bnd1_mk]
  by_cases c' : u < 0
  · exact ⟨-1, by simp [c'], by omega, by omega⟩
  · exact ⟨u, by simp [c'], by omega, fun _ => ⟨h5 (by omega), k5 (by omega)⟩⟩

theorem w_toEntry_eq {x : MEntry} (h : x.sm) : w_toEntry x = some x := by
  unfold w_toEntry; rw [w_toQuest_eq, bnd1_mk, w_toRecordS_eq (Nat.le_trans h.2.1 (by decide)), bnd1_mk]

theorem w_eqEntry_self {x : MEntry} : w_eqEntry x x = some true := by unfold w_eqEntry; simp [w_eqQuest_self, w_eqRecordS_self]

theorem s_WithTtl_l0_eq (k : Int) : ∀ (t pre : List Rec) (fl : Nat), t.length < fl → pre.length + t.length ≤ 1048576 → s_WithTtl_l0 k fl (pre ++ t) (pre.length : Int) = some (pre ++ t.map (setTtl k))
  | [], pre, fl, hf, hl => by
    obtain ⟨fl, rfl⟩ : ∃ q, fl = q + 1 := ⟨fl - 1, by simp at hf; omega⟩
    have c : ¬ ((pre.length : Int) < ((pre ++ ([] : List Rec)).length : Int)) := by simp
    rw [s_WithTtl_l0, decide_eq_false c, cond_false]
    simp
  | r :: t, pre, fl, hf, hl => by
    simp only [List.length_cons] at hf hl
    obtain ⟨fl, rfl⟩ : ∃ q, fl = q + 1 := ⟨fl - 1, by omega⟩
    have c : (pre.length : Int) < ((pre ++ r :: t).length : Int) := by simp; omega
    have e : (pre.length : Int) + 1 = ((pre ++ [setTtl k r]).length : Int) := by simp
    have h := s_WithTtl_l0_eq k t (pre ++ [setTtl k r]) fl (by omega) (by simp; omega)
    rw [s_WithTtl_l0, decide_eq_true c, cond_true, idx_nat, get_app, bnd1_mk, grd_pos (by simp only [i64]; omega), Int.toNat_natCast, set_app, e]
    simp only [List.append_assoc, List.singleton_append, List.map_cons] at h ⊢
    exact h

theorem s_WithTtl_eq {l : List Rec} {k : Int} (h : l.length ≤ 1048576) : s_WithTtl l k = some (l.map (setTtl k)) := by
  unfold s_WithTtl
  rw [s_l7Copy_eq (by omega), bnd1_mk]
  exact s_WithTtl_l0_eq k l [] fuel0 (fuel_lt h) (by simpa using h)

def MCache.sm (c : MCache) : Prop := c.l.length ≤ 1048576 ∧ ∀ e, e ∈ c.l → e.sm

theorem w_szEntryS_l0_p : ∀ (l : List MEntry) (n : Int) (i : Nat), (∀ r, r ∈ l → r.ok) → 0 ≤ n ∧ n ≤ 1048576 → ∃ v, w_szEntryS_l0 l n i = some v ∧ v ≤ n ∧ (0 ≤ v → ∀ r, r ∈ l → r.sm)
  | [], n, i, _, _ => ⟨n, rfl, Int.le_refl _, fun _ r hr => by cases hr⟩
  | r :: l, n, i, hr, hn => by
    obtain ⟨v, h1, h2, h2'⟩ := w_szEntry_p (hr r (.head _)) hn
    rw [w_szEntryS_l0, h1]
    by_cases c : v < 0
    · exact ⟨-1, by simp [c], by omega, by omega⟩
    · obtain ⟨w, h3, h4, h5⟩ := w_szEntryS_l0_p l v (i + 1) (fun q hq => hr q (.tail _ hq)) (by omega)
      exact ⟨w, by simp [c, h3], by omega, fun h q hq => by
        cases hq with
        | head => exact h2' (by omega)
        | tail _ hq => exact h5 h q hq⟩

theorem w_szEntryS_p {l : List MEntry} {n : Int} (hl : l.length ≤ 9223372036854775807 ∧ ∀ r, r ∈ l → r.ok) (hn : 0 ≤ n ∧ n ≤ 1048576) : ∃ v, w_szEntryS l n = some v ∧ v ≤ n ∧ (0 ≤ v → l.length ≤ 1048576 ∧ ∀ r, r ∈ l → r.sm) := by
  obtain ⟨h0, hr⟩ := hl
  unfold w_szEntryS
  rw [grd_pos (by simp only [i64]; omega)]
  by_cases c : n - (l.length : Int) < 0
  · exact ⟨-1, by simp [c], by omega, by omega⟩
  · obtain ⟨v, h1, h2, h3⟩ := w_szEntryS_l0_p l (n - l.length) 0 hr (by omega)
    exact ⟨v, by simp [c, h1], by omega, fun h => ⟨by omega, h3 h⟩⟩

theorem w_szCache_p {f : MCache} {n : Int} (hf : f.ok) (hn : 0 ≤ n ∧ n ≤ 1048576) : ∃ v, w_szCache f n = some v ∧ v ≤ n ∧ (0 ≤ v → f.sm) := by
  unfold w_szCache
  obtain ⟨a, a1, a2, a3⟩ := w_szEntryS_p hf.2 hn
  by_cases c : a < 0
  · exact ⟨-1, by simp [a1, c], by omega, by omega⟩
  · exact ⟨a, by simp [a1, c], by omega, fun _ => a3 (by omega)⟩

theorem w_toEntryS_l0_eq : ∀ (t pre : List MEntry) (z : List MEntry), z.length = t.length → (∀ r, r ∈ t → r.sm) → w_toEntryS_l0 t (pre ++ z) pre.length = some (pre ++ t)
  | [], pre, z, hz, _ => by cases z with | nil => rfl | cons a b => simp at hz
  | r :: t, pre, z, hz, h => by
    cases z with
    | nil => simp at hz
    | cons a z =>
      rw [w_toEntryS_l0]
      have := w_toEntryS_l0_eq t (pre ++ [r]) z (by simpa using hz) (fun q hq => h q (.tail _ hq))
      rw [w_toEntry_eq (h r (.head _))]
      simp only [bnd1_mk, idx_nat]
      simp [bnd1] at this ⊢
      simpa using this

theorem w_toEntryS_eq {l : List MEntry} (h : l.length ≤ 1099511627776) (hs : ∀ r, r ∈ l → r.sm) : w_toEntryS l = some l := by
  unfold w_toEntryS
  rw [grd_pos (by omega)]
  have := w_toEntryS_l0_eq l [] (List.replicate l.length ⟨⟨⟨#[]⟩, 0⟩, 0, [], 0, 0⟩) (by simp) hs
  simpa using this

theorem w_toCache_eq {c : MCache} (h : c.sm) : w_toCache c = some c := by
  unfold w_toCache
  rw [w_toEntryS_eq (Nat.le_trans h.1 (by decide)) h.2, bnd1_mk]

theorem w_eqEntryS_l0_self : ∀ (t pre : List MEntry), w_eqEntryS_l0 (pre ++ t) t pre.length = some true
  | [], pre => rfl
  | r :: t, pre => by
    rw [w_eqEntryS_l0]
    have := w_eqEntryS_l0_self t (pre ++ [r])
    simp only [idx_nat]
    simp [w_eqEntry_self] at this ⊢
    exact this

theorem w_eqEntryS_self {l : List MEntry} : w_eqEntryS l l = some true := by
  unfold w_eqEntryS
  have := w_eqEntryS_l0_self l []
  simpa using this

theorem w_eqCache_self {c : MCache} : w_eqCache c c = some true := by unfold w_eqCache; simp [w_eqEntryS_self]

def qEq (a b : Quest) : Bool := decide (a.name = b.name) && decide (a.ty = b.ty)

theorem qEq_true (a b : Quest) : (decide (a.name = b.name) && (decide (a.ty = b.ty) && true)) = qEq a b := by unfold qEq; rw [Bool.and_true]

def zent : MEntry := ⟨⟨⟨#[]⟩, 0⟩, 0, [], 0, 0⟩

theorem s_l15Entry_eq {e : MEntry} (h : e.sm) : s_l15Entry e = some e := by
  have hc : s_l7Copy e.l = some e.l := by unfold s_l7Copy; rw [List.nil_append, grd_pos (Nat.le_trans h.2.1 (by decide))]
  unfold s_l15Entry; rw [hc]; rfl

theorem s_l15Lives_eq {e : MEntry} {now : Int} : s_l15Lives e now = some (decide (now < e.til)) := rfl

theorem idx_getD {l : List MEntry} {b : Nat} (h : b < l.length) : idx l (b : Int) = some (l.getD b zent) := by
  rw [idx_nat, List.getElem?_eq_getElem h]; simp [List.getD, List.getElem?_eq_getElem h]

/-- How long an entry may last from now on. -/
def left (til now : Int) : Int := if til - now ≤ 100000 then til - now else 100000

def lookE (now : Int) (q : Quest) (rank : Int) (e : MEntry) : Bool := qEq e.q q && (decide (rank ≤ e.rank) && decide (now < e.til))

def lookP (c : MCache) (now : Int) (q : Quest) (rank : Int) : MEntry × Bool := match c.l.find? (lookE now q rank) with
  | some e => (⟨e.q, e.kind, e.l.map (setTtl (left e.til now)), e.rank, e.til⟩, true)
  | none => (zent, false)

theorem wrap_over {x : Int} (h : 9223372036854775808 ≤ x ∧ x < 18446744073709551616) : IntKind.i64.wrap x = x - 18446744073709551616 := by
  simp [IntKind.wrap, IntKind.signed, IntKind.bits]; omega

theorem drop_cons_get {l : List MEntry} {i : Nat} (h : i < l.length) : l.drop i = l.getD i zent :: l.drop (i + 1) := by
  rw [List.drop_eq_getElem_cons h]; simp [List.getD, List.getElem?_eq_getElem h]

theorem i_Look_j4_eq {now : Int} {e : MEntry} (hn : i64 now) (he : i64 e.til) (hs : e.sm) (hl : now < e.til) :
    (bif decide (IntKind.i64.wrap (e.til - now) < 0) then (i_Look_j4 now e true) else (i_Look_j4 now e (decide (100000 < IntKind.i64.wrap (e.til - now))))) = some (⟨e.q, e.kind, e.l.map (setTtl (left e.til now)), e.rank, e.til⟩, true) := by
  have hw : ∀ k, i_Look_j3 e k = some (⟨e.q, e.kind, e.l.map (setTtl k), e.rank, e.til⟩, true) := fun k => by
    unfold i_Look_j3; rw [i_WithTtl_eq (Nat.le_trans hs.2.1 (by decide))]; rfl
  obtain ⟨n1, n2⟩ := hn
  obtain ⟨t1, t2⟩ := he
  unfold i_Look_j4 left
  rw [hw, hw]
  by_cases c : e.til - now < 9223372036854775808
  · rw [wrap_id (by omega)]
    have c1 : ¬ (e.til - now < 0) := by omega
    rw [decide_eq_false c1, cond_false]
    by_cases c2 : e.til - now ≤ 100000
    · have c3 : ¬ (100000 < e.til - now) := by omega
      rw [decide_eq_false c3, cond_false, if_pos c2]
    · have c3 : 100000 < e.til - now := by omega
      rw [decide_eq_true c3, cond_true, if_neg c2]
  · rw [wrap_over (by omega)]
    have c1 : e.til - now - 18446744073709551616 < 0 := by omega
    have c2 : ¬ (e.til - now ≤ 100000) := by omega
    rw [decide_eq_true c1, cond_true, cond_true, if_neg c2]

theorem i_Look_l1_eq {c : MCache} {now : Int} {q : Quest} {rank : Int} (hn : i64 now) (hc : c.sm) (ht : ∀ e, e ∈ c.l → i64 e.til) : ∀ (k fl i : Nat), c.l.length - i = k → i ≤ c.l.length → k < fl →
    i_Look_l1 c now q rank fl (i : Int) = some (match (c.l.drop i).find? (lookE now q rank) with | some e => (⟨e.q, e.kind, e.l.map (setTtl (left e.til now)), e.rank, e.til⟩, true) | none => (zent, false))
  | k, 0, i, _, _, h => by omega
  | k, fl + 1, i, hk, hi, hfl => by
    rw [i_Look_l1]
    by_cases c1 : i = c.l.length
    · have c2 : ¬ ((i : Int) < (c.l.length : Int)) := by omega
      rw [decide_eq_false c2, cond_false, List.drop_eq_nil_of_le (by omega)]
      rfl
    · have hlt : i < c.l.length := by omega
      have c2 : ((i : Int) < (c.l.length : Int)) := by omega
      have hm : c.l.getD i zent ∈ c.l := by simp [List.getD, List.getElem?_eq_getElem hlt]
      have hsz := hc.1
      rw [decide_eq_true c2, cond_true, idx_getD hlt, bnd1_mk, drop_cons_get hlt, List.find?_cons]
      generalize hx : c.l.getD i zent = x at hm ⊢
      have ih := i_Look_l1_eq (q := q) (rank := rank) hn hc ht (k - 1) fl (i + 1) (by omega) (by omega) (by omega)
      rw [qEq_true]
      unfold i_Look_j2
      have ew : IntKind.i64.wrap ((i : Int) + 1) = ((i + 1 : Nat) : Int) := by rw [wrap_id (by omega)]; omega
      rw [ew, ih]
      unfold lookE
      cases hq : qEq x.q q with
      | false => rfl
      | true =>
        simp only [Bool.not_true, cond_false, Bool.true_and]
        by_cases c3 : x.rank < rank
        · have c4 : ¬ (rank ≤ x.rank) := by omega
          simp only [c3, c4, decide_true, decide_false, cond_true, Bool.false_and]
        · have c4 : rank ≤ x.rank := by omega
          simp only [c3, c4, decide_true, decide_false, cond_false, Bool.true_and]
          by_cases c5 : x.til ≤ now
          · have c6 : ¬ (now < x.til) := by omega
            simp only [c5, c6, decide_true, decide_false, cond_true]
          · have c6 : now < x.til := by omega
            have hj := i_Look_j4_eq hn (ht x hm) (hc.2 x hm) c6
            simp only [c5, c6, decide_true, decide_false, cond_false]
            exact hj

theorem i_Look_eq {c : MCache} {now : Int} {q : Quest} {rank : Int} (hn : i64 now) (hc : c.sm) (ht : ∀ e, e ∈ c.l → i64 e.til) : i_Look c now q rank = some (lookP c now q rank) := by
  unfold i_Look lookP
  have := i_Look_l1_eq (q := q) (rank := rank) hn hc ht c.l.length fuel0 0 (by omega) (by omega) (fuel_lt hc.1)
  rw [List.drop_zero] at this
  exact this

theorem s_Look_j4_eq {now : Int} {e : MEntry} (hn : i64 now) (he : i64 e.til) (hs : e.sm) (hl : now < e.til) :
    (bif decide (0 < now) then (bif decide (IntKind.i64.wrap (e.til - now) < 100000) then (s_Look_j4 now e e true) else (bif decide (now ≤ 0) then (s_Look_j4 now e e (decide (e.til < IntKind.i64.wrap (100000 + now)))) else (s_Look_j4 now e e false))) else (bif decide (now ≤ 0) then (s_Look_j4 now e e (decide (e.til < IntKind.i64.wrap (100000 + now)))) else (s_Look_j4 now e e false)))
      = some (⟨e.q, e.kind, e.l.map (setTtl (left e.til now)), e.rank, e.til⟩, true) := by
  have hw : ∀ k, s_Look_j3 e e k = some (⟨e.q, e.kind, e.l.map (setTtl k), e.rank, e.til⟩, true) := fun k => by
    unfold s_Look_j3; rw [s_WithTtl_eq hs.2.1]; rfl
  obtain ⟨n1, n2⟩ := hn
  obtain ⟨t1, t2⟩ := he
  unfold s_Look_j4 left
  rw [hw, hw]
  by_cases c : 0 < now
  · have c0 : ¬ (now ≤ 0) := by omega
    rw [wrap_id (x := e.til - now) (by omega), decide_eq_true c, decide_eq_false c0]
    simp only [cond_true, cond_false]
    by_cases c2 : e.til - now < 100000
    · rw [decide_eq_true c2, cond_true, if_pos (by omega)]
    · rw [decide_eq_false c2, cond_false]
      by_cases c3 : e.til - now ≤ 100000
      · rw [if_pos c3, show e.til - now = 100000 by omega]
      · rw [if_neg c3]
  · have c0 : now ≤ 0 := by omega
    rw [wrap_id (x := 100000 + now) (by omega), decide_eq_false c, decide_eq_true c0]
    simp only [cond_true, cond_false]
    by_cases c2 : e.til < 100000 + now
    · rw [decide_eq_true c2, cond_true, wrap_id (by omega), if_pos (by omega)]
    · rw [decide_eq_false c2, cond_false]
      by_cases c3 : e.til - now ≤ 100000
      · rw [if_pos c3, show e.til - now = 100000 by omega]
      · rw [if_neg c3]

theorem s_Look_l1_eq {c : MCache} {now : Int} {q : Quest} {rank : Int} (hn : i64 now) (hc : c.sm) (ht : ∀ e, e ∈ c.l → i64 e.til) : ∀ (k fl i : Nat), c.l.length - i = k → i ≤ c.l.length → k < fl →
    s_Look_l1 c now q rank fl (i : Int) = some (match (c.l.drop i).find? (lookE now q rank) with | some e => (⟨e.q, e.kind, e.l.map (setTtl (left e.til now)), e.rank, e.til⟩, true) | none => (zent, false))
  | k, 0, i, _, _, h => by omega
  | k, fl + 1, i, hk, hi, hfl => by
    rw [s_Look_l1]
    by_cases c1 : i = c.l.length
    · have c2 : ¬ ((i : Int) < (c.l.length : Int)) := by omega
      rw [decide_eq_false c2, cond_false, List.drop_eq_nil_of_le (by omega)]
      rfl
    · have hlt : i < c.l.length := by omega
      have c2 : ((i : Int) < (c.l.length : Int)) := by omega
      have hm : c.l.getD i zent ∈ c.l := by simp [List.getD, List.getElem?_eq_getElem hlt]
      have hsz := hc.1
      rw [decide_eq_true c2, cond_true, idx_getD hlt, bnd1_mk, drop_cons_get hlt, List.find?_cons]
      generalize hx : c.l.getD i zent = x at hm ⊢
      have ih := s_Look_l1_eq (q := q) (rank := rank) hn hc ht (k - 1) fl (i + 1) (by omega) (by omega) (by omega)
      rw [qEq_true, s_l15Lives_eq, bnd1_mk]
      unfold s_Look_j2
      have ew : IntKind.i64.wrap ((i : Int) + 1) = ((i + 1 : Nat) : Int) := by rw [wrap_id (by omega)]; omega
      rw [ew, ih, s_l15Entry_eq (hc.2 x hm), bnd1_mk]
      unfold lookE
      cases hq : qEq x.q q with
      | false => rfl
      | true =>
        simp only [cond_true, Bool.true_and]
        by_cases c6 : now < x.til
        · by_cases c4 : rank ≤ x.rank
          · have hj := s_Look_j4_eq hn (ht x hm) (hc.2 x hm) c6
            simp only [c4, c6, decide_true, cond_true, Bool.true_and]
            exact hj
          · simp only [c4, c6, decide_true, decide_false, cond_true, cond_false, Bool.false_and]
        · simp only [c6, decide_false, cond_false, Bool.and_false]

theorem s_Look_eq {c : MCache} {now : Int} {q : Quest} {rank : Int} (hn : i64 now) (hc : c.sm) (ht : ∀ e, e ∈ c.l → i64 e.til) : s_Look c now q rank = some (lookP c now q rank) := by
  unfold s_Look lookP
  have := s_Look_l1_eq (q := q) (rank := rank) hn hc ht c.l.length fuel0 0 (by omega) (by omega) (fuel_lt hc.1)
  rw [List.drop_zero] at this
  exact this

theorem w_markEntryS_l0_p : ∀ (k fl : Nat) (l : List MEntry) (n : Int) (i : Nat), i + k = l.length → k < fl → (∀ z, z ∈ l → z.l.length ≤ 1048576) → 0 ≤ n → n + k * 8388608 ≤ 4611686018427380000 → l.length ≤ 1048576 → ∃ a m, w_markEntryS_l0 fl l n (i : Int) = some (a, m) ∧ m.length = l.length ∧ n ≤ a ∧ a ≤ n + k * 8388608
  | 0, fl, l, n, i, hi, hf, hz, h0, hn, hl => by
    obtain ⟨fl, rfl⟩ : ∃ q, fl = q + 1 := ⟨fl - 1, by omega⟩
    rw [w_markEntryS_l0, decide_eq_false (by omega), cond_false]
    exact ⟨n, l, rfl, rfl, Int.le_refl _, by omega⟩
  | k + 1, fl, l, n, i, hi, hf, hz, h0, hn, hl => by
    obtain ⟨fl, rfl⟩ : ∃ q, fl = q + 1 := ⟨fl - 1, by omega⟩
    obtain ⟨z, hx⟩ : ∃ z, l[i]? = some z := ⟨_, List.getElem?_eq_getElem (by omega)⟩
    have hm := List.mem_of_getElem? hx
    have h2 := hz z hm
    have e : ((i : Int) + 1) = ((i + 1 : Nat) : Int) := by omega
    rw [w_markEntryS_l0, decide_eq_true (by omega), cond_true, w_markText_eq (by omega), bnd1_mk, idx_nat, hx, bnd1_mk, grd_pos (by simp only [i64]; omega), grd_pos (by simp only [i64]; omega), grd_pos (by simp only [i64]; omega), w_markRecordS_eq (by omega) (by omega) (by omega), bnd2_mk, grd_pos (mkL_len _ _), grd_pos (by simp only [i64]; omega), grd_pos (by simp only [i64]; omega), grd_pos (by simp only [i64]; omega), e]
    obtain ⟨a, m, h3, h4, h5, h6⟩ := w_markEntryS_l0_p k fl (l.set (i : Int).toNat ⟨⟨mkT n, n + 1⟩, n + 1 + 1, mkL z.l (n + 1 + 1 + 1), n + 1 + 1 + 1 + 6 * z.l.length, n + 1 + 1 + 1 + 6 * z.l.length + 1⟩) (n + 1 + 1 + 1 + 6 * z.l.length + 1 + 1) (i + 1) (by rw [List.length_set]; omega) (by omega) (fun y hy => by
      rcases List.mem_or_eq_of_mem_set hy with hy | rfl
      · exact hz y hy
      · show (mkL z.l (n + 1 + 1 + 1)).length ≤ _; rw [mkL_len]; exact h2) (by omega) (by omega) (by rw [List.length_set]; omega)
    exact ⟨a, m, h3, by rw [h4, List.length_set], by omega, by omega⟩

theorem w_markCache_p {c : MCache} (h : c.sm) : ∃ a b, w_markCache c 1 = some (a, b) ∧ 0 ≤ a ∧ b.length = c.l.length ∧ a ≤ 10000000000000 := by
  obtain ⟨a, m, h1, h2, h3, h4⟩ := w_markEntryS_l0_p c.l.length fuel0 c.l 1 0 (by omega) (fuel_lt h.1) (fun z hz => (h.2 z hz).2.1) (by omega) (by have := h.1; omega) h.1
  have e1 : w_markEntryS c.l 1 = some (a, m) := h1
  unfold w_markCache
  rw [e1, bnd2_mk, grd_pos h2]
  exact ⟨_, _, rfl, by omega, h2, by have := h.1; omega⟩

theorem lookP_len {c : MCache} {now : Int} {q : Quest} {rank : Int} (h : c.sm) : (lookP c now q rank).1.l.length ≤ 1048576 := by
  unfold lookP
  cases hf : c.l.find? (lookE now q rank) with
  | none => show (zent.l).length ≤ _; exact Nat.zero_le _
  | some e =>
    show (e.l.map (setTtl (left e.til now))).length ≤ _
    rw [List.length_map]
    exact (h.2 e (List.mem_of_find?_eq_some hf)).2.1

theorem w_markEntry_p {x : MEntry} {n : Int} (h0 : 0 ≤ n ∧ n ≤ 1000000000000000) (h : x.l.length ≤ 1048576) : ∃ a b, w_markEntry x n = some (a, b) ∧ b.length = x.l.length ∧ w_heldEntry ⟨x.q, x.kind, b, x.rank, x.til⟩ n = some a ∧ 0 ≤ a := by
  unfold w_markEntry
  rw [w_markRecordS_eq (by omega) (by omega) (by omega), bnd2_mk, grd_pos (mkL_len _ _)]
  refine ⟨_, _, rfl, mkL_len _ _, ?_, by omega⟩
  unfold w_heldEntry
  rw [w_heldRecordS_eq (by omega) (by omega), bnd1_mk, decide_eq_false (by omega), cond_false]

theorem law_Look {c : MCache} {now : Int} {q : Quest} {rank : Int} (hc : c.ok) (hn : i64 now) (hq : q.ok) (_ : i64 rank) : w_FnExactLook c now q rank = some true := by
  unfold w_FnExactLook
  obtain ⟨v, h3, h4, h5⟩ := w_szCache_p hc (n := 1048576) (by omega)
  rw [h3]
  by_cases k : v < 0
  · simp [k]
  obtain ⟨u, k3, k4, k5⟩ := w_szQuest_p hq (n := v) (by omega)
  rw [bnd1_mk, k3]
  by_cases k' : u < 0
  · simp [k, k']
  · have h6 := h5 (by omega)
    have k6 := k5 (by omega)
    have ht : ∀ e, e ∈ c.l → i64 e.til := fun e he => (hc.2.2 e he).2.2.2.2
    have e1 := s_Look_eq (q := q) (rank := rank) hn h6 ht
    have e2 := i_Look_eq (q := q) (rank := rank) hn h6 ht
    have hl := lookP_len (now := now) (q := q) (rank := rank) h6
    generalize lookP c now q rank = x at e1 e2 hl
    obtain ⟨x, b⟩ := x
    replace hl : x.l.length ≤ 1048576 := hl
    obtain ⟨a, m, g1, g2, g3, -⟩ := w_markCache_p h6
    obtain ⟨y, z, r1, r2, r3, r4⟩ := w_markEntry_p (x := x) (n := 1) (by omega) hl
    have c2 : ¬ (a < 0) := by omega
    have c3 : ¬ (y < 0) := by omega
    simp [k, k', w_toCache_eq h6, w_toQuest_eq, e1, e2, w_eqCache_self, w_eqEntry_self, g1, g3, grd_pos, c2, w_FnExactLook_j0, w_FnExactLook_j1, w_FnExactLook_j2, r1, r2, r3, c3]
end Go.Abs.M
