/- The pure law of Expire: its pure function answers true. -/
import Derived.Test.YtcdpmfnjajjlkaaFnsExpire
set_option linter.unusedSimpArgs false
set_option linter.unusedVariables false
namespace Go.Abs.M
open Go Go.Abs
theorem idx_nat {α : Type} {l : List α} {n : Nat} : idx l (n : Int) = l[n]? := by simp [idx]

theorem w_toRecord_eq {r : Rec} : w_toRecord r = some r := rfl

theorem w_toRecordS_l0_eq : ∀ (t pre : List Rec) (z : List Rec), z.length = t.length → w_toRecordS_l0 t (pre ++ z) pre.length = some (pre ++ t)
  | [], pre, z, hz => by cases z with | nil => rfl | cons a b => simp at hz
  | r :: t, pre, z, hz => by
    cases z with
    | nil => simp at hz
    | cons a z =>
      rw [w_toRecordS_l0]
      have := w_toRecordS_l0_eq t (pre ++ [r]) z (by simpa using hz)
      simp only [w_toRecord_eq, bnd1_mk, idx_nat]
      simp [bnd1] at this ⊢
      simpa using this

theorem w_toRecordS_eq {l : List Rec} (h : l.length ≤ 1099511627776) : w_toRecordS l = some l := by
  unfold w_toRecordS
  rw [grd_pos (by omega)]
  have := w_toRecordS_l0_eq l [] (List.replicate l.length ⟨⟨#[]⟩, 0, 0, 0, ⟨#[]⟩, ⟨#[]⟩⟩) (by simp)
  simpa using this

theorem w_eqRecord_self {a : Rec} : w_eqRecord a a = some true := by unfold w_eqRecord; simp

theorem w_eqRecordS_l0_self : ∀ (t pre : List Rec), w_eqRecordS_l0 (pre ++ t) t pre.length = some true
  | [], pre => rfl
  | r :: t, pre => by
    rw [w_eqRecordS_l0]
    have := w_eqRecordS_l0_self t (pre ++ [r])
    simp only [idx_nat]
    simp [w_eqRecord_self] at this ⊢
    exact this

theorem w_eqRecordS_self {l : List Rec} : w_eqRecordS l l = some true := by
  unfold w_eqRecordS
  have := w_eqRecordS_l0_self l []
  simpa using this

theorem w_toQuest_eq {q : Quest} : w_toQuest q = some q := rfl

theorem w_eqQuest_self {q : Quest} : w_eqQuest q q = some true := by unfold w_eqQuest; simp

def Rec.sm (r : Rec) : Prop := r.name.size ≤ 1048576 ∧ r.host.size ≤ 1048576 ∧ r.text.size ≤ 1048576

def smL (l : List Rec) : Prop := l.length ≤ 1048576 ∧ ∀ r, r ∈ l → r.sm

def okL (l : List Rec) : Prop := l.length ≤ 9223372036854775807 ∧ ∀ r, r ∈ l → r.ok

theorem w_szRecord_p {r : Rec} {n : Int} (hr : r.ok) (hn : 0 ≤ n ∧ n ≤ 1048576) : ∃ v, w_szRecord r n = some v ∧ v ≤ n ∧ (0 ≤ v → r.sm) := by
  obtain ⟨h1, -, -, -, h2, h3⟩ := hr
  unfold w_szRecord Rec.sm
  rw [grd_pos (by simp only [i64]; omega)]
  by_cases c1 : n - (r.name.size : Int) < 0
  · exact ⟨-1, by simp [c1], by omega, by omega⟩
  · simp only [c1, decide_false, cond_false]
    rw [grd_pos (by simp only [i64]; omega)]
    by_cases c2 : n - (r.name.size : Int) - (r.host.size : Int) < 0
    · exact ⟨-1, by simp [c2], by omega, by omega⟩
    · simp only [c2, decide_false, cond_false]
      rw [grd_pos (by simp only [i64]; omega)]
      by_cases c3 : n - (r.name.size : Int) - (r.host.size : Int) - (r.text.size : Int) < 0
      · exact ⟨-1, by simp [c3], by omega, by omega⟩
      · exact ⟨_, by simp only [c3, decide_false, cond_false]; rfl, by omega, by omega⟩

theorem w_szRecordS_l0_p : ∀ (l : List Rec) (n : Int) (i : Nat), (∀ r, r ∈ l → r.ok) → 0 ≤ n ∧ n ≤ 1048576 → ∃ v, w_szRecordS_l0 l n i = some v ∧ v ≤ n ∧ (0 ≤ v → ∀ r, r ∈ l → r.sm)
  | [], n, i, _, _ => ⟨n, rfl, Int.le_refl _, fun _ r hr => by cases hr⟩
  | r :: l, n, i, hr, hn => by
    obtain ⟨v, h1, h2, h2'⟩ := w_szRecord_p (hr r (.head _)) hn
    rw [w_szRecordS_l0, h1]
    by_cases c : v < 0
    · exact ⟨-1, by simp [c], by omega, by omega⟩
    · obtain ⟨w, h3, h4, h5⟩ := w_szRecordS_l0_p l v (i + 1) (fun q hq => hr q (.tail _ hq)) (by omega)
      exact ⟨w, by simp [c, h3], by omega, fun h q hq => by
        cases hq with
        | head => exact h2' (by omega)
        | tail _ hq => exact h5 h q hq⟩

theorem w_szRecordS_p {l : List Rec} {n : Int} (hl : okL l) (hn : 0 ≤ n ∧ n ≤ 1048576) : ∃ v, w_szRecordS l n = some v ∧ v ≤ n ∧ (0 ≤ v → smL l) := by
  obtain ⟨h0, hr⟩ := hl
  unfold w_szRecordS
  rw [grd_pos (by simp only [i64]; omega)]
  by_cases c : n - (l.length : Int) < 0
  · exact ⟨-1, by simp [c], by omega, by omega⟩
  · obtain ⟨v, h1, h2, h3⟩ := w_szRecordS_l0_p l (n - l.length) 0 hr (by omega)
    exact ⟨v, by simp [c, h1], by omega, fun h => ⟨by omega, h3 h⟩⟩

def Quest.sm (q : Quest) : Prop := q.name.size ≤ 1048576

theorem w_szQuest_p {q : Quest} {n : Int} (hq : q.ok) (hn : 0 ≤ n ∧ n ≤ 1048576) : ∃ v, w_szQuest q n = some v ∧ v ≤ n ∧ (0 ≤ v → q.sm) := by
  obtain ⟨h1, -⟩ := hq
  unfold w_szQuest Quest.sm
  rw [grd_pos (by simp only [i64]; omega)]
  by_cases c1 : n - (q.name.size : Int) < 0
  · exact ⟨-1, by simp [c1], by omega, by omega⟩
  · exact ⟨_, by simp only [c1, decide_false, cond_false]; rfl, by omega, by omega⟩

theorem w_markText_l0_some : ∀ (k fl : Nat) (n : Int) (s : ByteArray), 0 ≤ n → n.toNat ≤ k → k < fl → (s.size : Int) + n ≤ 4611686018427387904 → ∃ t, w_markText_l0 fl n s = some t
  | k, fl, n, s, h0, hk, hf, hs => by
    obtain ⟨fl, rfl⟩ : ∃ q, fl = q + 1 := ⟨fl - 1, by omega⟩
    rw [w_markText_l0]
    have e1 : (⟨#[109]⟩ : ByteArray).size = 1 := rfl
    by_cases c : 0 < n
    · have e2 : ∀ x, (strOfNums [x]).size = 1 := fun _ => rfl
      have e3 : Int.tmod n 10 = n % 10 := Int.tmod_eq_emod_of_nonneg h0
      have e4 : Int.tdiv n 10 = n / 10 := Int.tdiv_eq_ediv_of_nonneg h0
      rw [decide_eq_true c, cond_true, grd_pos (by simp only [i64]; omega), grd_pos (by rw [e2]; omega), e4, wrap_id (by omega)]
      cases k with
      | zero => omega
      | succ k => exact w_markText_l0_some k fl (n / 10) _ (by omega) (by omega) (by omega) (by rw [ByteArray.size_append, e2]; omega)
    · rw [decide_eq_false c, cond_false, grd_pos (by rw [e1]; omega)]
      exact ⟨_, rfl⟩

def mkT (n : Int) : ByteArray := (w_markText n).getD ⟨#[]⟩

theorem w_markText_eq {n : Int} (h : n ≤ 4611686018427387900) : w_markText n = some (mkT n) := by
  have : ∃ t, w_markText n = some t := by
    unfold w_markText
    by_cases c : n ≤ 0
    · rw [decide_eq_true c]; exact ⟨_, rfl⟩
    · rw [decide_eq_false c, cond_false]
      exact w_markText_l0_some n.toNat fuel0 n _ (by omega) (Nat.le_refl _) (by unfold fuel0; omega) (by have : (⟨#[]⟩ : ByteArray).size = 0 := rfl; rw [this]; omega)
  obtain ⟨t, h1⟩ := this
  unfold mkT
  rw [h1]; rfl

theorem set_app {α : Type} (pre t : List α) (x y : α) : (pre ++ x :: t).set pre.length y = pre ++ y :: t := by simp

theorem get_app {α : Type} (pre t : List α) (x : α) : (pre ++ x :: t)[pre.length]? = some x := by simp

def mkR (n : Int) : Rec := ⟨mkT n, n + 1, n + 1 + 1, n + 1 + 1 + 1, mkT (n + 1 + 1 + 1 + 1), mkT (n + 1 + 1 + 1 + 1 + 1)⟩

def mkL : List Rec → Int → List Rec
  | [], _ => []
  | _ :: l, n => mkR n :: mkL l (n + 1 + 1 + 1 + 1 + 1 + 1)

theorem mkL_len : ∀ (l : List Rec) (n : Int), (mkL l n).length = l.length
  | [], _ => rfl
  | _ :: l, n => by simp [mkL, mkL_len l]

theorem w_markRecordS_l0_eq : ∀ (t pre : List Rec) (n : Int) (fl : Nat), t.length < fl → 0 ≤ n → n + 6 * t.length ≤ 4611686018427387800 → pre.length + t.length ≤ 1099511627776 →
    w_markRecordS_l0 fl (pre ++ t) n (pre.length : Int) = some (n + 6 * t.length, pre ++ mkL t n)
  | [], pre, n, fl, hf, h0, hn, hl => by
    obtain ⟨fl, rfl⟩ : ∃ q, fl = q + 1 := ⟨fl - 1, by simp at hf; omega⟩
    rw [w_markRecordS_l0]
    simp [mkL]
  | r :: t, pre, n, fl, hf, h0, hn, hl => by
    simp only [List.length_cons] at hf hn hl
    obtain ⟨fl, rfl⟩ : ∃ q, fl = q + 1 := ⟨fl - 1, by omega⟩
    have c : decide ((pre.length : Int) < ((pre ++ r :: t).length : Int)) = true := by simp; omega
    have e : ((pre.length : Int) + 1) = (((pre ++ [mkR n]).length : Nat) : Int) := by simp
    rw [w_markRecordS_l0, c, cond_true, w_markText_eq (by omega), bnd1_mk, idx_nat, get_app, bnd1_mk, grd_pos (by simp only [i64]; omega), grd_pos (by simp only [i64]; omega), grd_pos (by simp only [i64]; omega), grd_pos (by simp only [i64]; omega),
      w_markText_eq (by omega), bnd1_mk, grd_pos (by simp only [i64]; omega), w_markText_eq (by omega), bnd1_mk, grd_pos (by simp only [i64]; omega), grd_pos (by simp only [i64]; omega), Int.toNat_natCast]
    simp only [set_app]
    have h := w_markRecordS_l0_eq t (pre ++ [mkR n]) (n + 1 + 1 + 1 + 1 + 1 + 1) fl (by omega) (by omega) (by omega) (by simp; omega)
    rw [List.append_assoc, List.singleton_append] at h
    rw [e]
    unfold mkR at h ⊢
    rw [h, mkL]
    simp only [List.append_assoc, List.singleton_append, List.length_cons]
    congr 2
    omega

theorem w_markRecordS_eq {l : List Rec} {n : Int} (h0 : 0 ≤ n) (hn : n + 6 * l.length ≤ 4611686018427387800) (hl : l.length ≤ 1099511627776) : w_markRecordS l n = some (n + 6 * l.length, mkL l n) := by
  have := w_markRecordS_l0_eq l [] n fuel0 (by unfold fuel0; omega) h0 hn (by simpa using hl)
  simpa [w_markRecordS] using this

theorem w_heldRecordS_l0_eq : ∀ (t : List Rec) (n : Int) (i : Nat), 0 ≤ n → n + 6 * t.length ≤ 4611686018427387800 → w_heldRecordS_l0 (mkL t n) n i = some (n + 6 * t.length)
  | [], n, i, _, _ => by simp [mkL, w_heldRecordS_l0]
  | r :: t, n, i, h0, hn => by
    simp only [List.length_cons] at hn
    have h := w_heldRecordS_l0_eq t (n + 1 + 1 + 1 + 1 + 1 + 1) (i + 1) (by omega) (by omega)
    rw [mkL, w_heldRecordS_l0, w_markText_eq (by omega), bnd1_mk]
    simp only [mkR, decide_true, Bool.not_true, cond_false]
    rw [grd_pos (by simp only [i64]; omega), grd_pos (by simp only [i64]; omega), grd_pos (by simp only [i64]; omega), grd_pos (by simp only [i64]; omega), w_markText_eq (by omega), bnd1_mk]
    simp only [decide_true, Bool.not_true, cond_false]
    rw [grd_pos (by simp only [i64]; omega), w_markText_eq (by omega), bnd1_mk]
    simp only [decide_true, Bool.not_true, cond_false]
    rw [grd_pos (by simp only [i64]; omega), h]
    congr 1
    simp only [List.length_cons]
    omega

theorem w_heldRecordS_eq {l : List Rec} {n : Int} (h0 : 0 ≤ n) (hn : n + 6 * l.length ≤ 4611686018427387800) : w_heldRecordS (mkL l n) n = some (n + 6 * l.length) := w_heldRecordS_l0_eq l n 0 h0 hn

theorem slices_Clone_Record_eq {l : List Rec} (h : l.length ≤ 1099511627776) : slices_Clone_Record l = some l := by
  unfold slices_Clone_Record
  rw [List.nil_append, grd_pos h]

theorem fuel_lt {k : Nat} (h : k ≤ 1048576) : k < fuel0 := by unfold fuel0; omega

def MEntry.sm (x : MEntry) : Prop := x.q.sm ∧ smL x.l

theorem w_szEntry_p {x : MEntry} {n : Int} (hx : x.ok) (hn : 0 ≤ n ∧ n ≤ 1048576) : ∃ v, w_szEntry x n = some v ∧ v ≤ n ∧ (0 ≤ v → x.sm) := by
  obtain ⟨v, h3, h4, h5⟩ := w_szQuest_p hx.1 hn
  unfold w_szEntry
  rw [h3, bnd1_mk]
  by_cases c : v < 0
  · exact ⟨-1, by simp [c], by omega, by omega⟩
  obtain ⟨u, k3, k4, k5⟩ := w_szRecordS_p (l := x.l) (n := v) (by have := hx; exact ⟨this.2.2.1.1, this.2.2.1.2⟩) (by omega)
  rw [decide_eq_false c, cond_false, k3, bnd1_mk]
  by_cases c' : u < 0
  · exact ⟨-1, by simp [c'], by omega, by omega⟩
  · exact ⟨u, by simp [c'], by omega, fun _ => ⟨h5 (by omega), k5 (by omega)⟩⟩

theorem w_toEntry_eq {x : MEntry} (h : x.sm) : w_toEntry x = some x := by
  unfold w_toEntry; rw [w_toQuest_eq, bnd1_mk, w_toRecordS_eq (Nat.le_trans h.2.1 (by decide)), bnd1_mk]

theorem w_eqEntry_self {x : MEntry} : w_eqEntry x x = some true := by unfold w_eqEntry; simp [w_eqQuest_self, w_eqRecordS_self]

def MCache.sm (c : MCache) : Prop := c.l.length ≤ 1048576 ∧ ∀ e, e ∈ c.l → e.sm

theorem w_szEntryS_l0_p : ∀ (l : List MEntry) (n : Int) (i : Nat), (∀ r, r ∈ l → r.ok) → 0 ≤ n ∧ n ≤ 1048576 → ∃ v, w_szEntryS_l0 l n i = some v ∧ v ≤ n ∧ (0 ≤ v → ∀ r, r ∈ l → r.sm)
  | [], n, i, _, _ => ⟨n, rfl, Int.le_refl _, fun _ r hr => by cases hr⟩
  | r :: l, n, i, hr, hn => by
    obtain ⟨v, h1, h2, h2'⟩ := w_szEntry_p (hr r (.head _)) hn
    rw [w_szEntryS_l0, h1]
    by_cases c : v < 0
    · exact ⟨-1, by simp [c], by omega, by omega⟩
    · obtain ⟨w, h3, h4, h5⟩ := w_szEntryS_l0_p l v (i + 1) (fun q hq => hr q (.tail _ hq)) (by omega)
      exact ⟨w, by simp [c, h3], by omega, fun h q hq => by
        cases hq with
        | head => exact h2' (by omega)
        | tail _ hq => exact h5 h q hq⟩

theorem w_szEntryS_p {l : List MEntry} {n : Int} (hl : l.length ≤ 9223372036854775807 ∧ ∀ r, r ∈ l → r.ok) (hn : 0 ≤ n ∧ n ≤ 1048576) : ∃ v, w_szEntryS l n = some v ∧ v ≤ n ∧ (0 ≤ v → l.length ≤ 1048576 ∧ ∀ r, r ∈ l → r.sm) := by
  obtain ⟨h0, hr⟩ := hl
  unfold w_szEntryS
  rw [grd_pos (by simp only [i64]; omega)]
  by_cases c : n - (l.length : Int) < 0
  · exact ⟨-1, by simp [c], by omega, by omega⟩
  · obtain ⟨v, h1, h2, h3⟩ := w_szEntryS_l0_p l (n - l.length) 0 hr (by omega)
    exact ⟨v, by simp [c, h1], by omega, fun h => ⟨by omega, h3 h⟩⟩

theorem w_szCache_p {f : MCache} {n : Int} (hf : f.ok) (hn : 0 ≤ n ∧ n ≤ 1048576) : ∃ v, w_szCache f n = some v ∧ v ≤ n ∧ (0 ≤ v → f.sm) := by
  unfold w_szCache
  obtain ⟨a, a1, a2, a3⟩ := w_szEntryS_p hf.2 hn
  by_cases c : a < 0
  · exact ⟨-1, by simp [a1, c], by omega, by omega⟩
  · exact ⟨a, by simp [a1, c], by omega, fun _ => a3 (by omega)⟩

theorem w_toEntryS_l0_eq : ∀ (t pre : List MEntry) (z : List MEntry), z.length = t.length → (∀ r, r ∈ t → r.sm) → w_toEntryS_l0 t (pre ++ z) pre.length = some (pre ++ t)
  | [], pre, z, hz, _ => by cases z with | nil => rfl | cons a b => simp at hz
  | r :: t, pre, z, hz, h => by
    cases z with
    | nil => simp at hz
    | cons a z =>
      rw [w_toEntryS_l0]
      have := w_toEntryS_l0_eq t (pre ++ [r]) z (by simpa using hz) (fun q hq => h q (.tail _ hq))
      rw [w_toEntry_eq (h r (.head _))]
      simp only [bnd1_mk, idx_nat]
      simp [bnd1] at this ⊢
      simpa using this

theorem w_toEntryS_eq {l : List MEntry} (h : l.length ≤ 1099511627776) (hs : ∀ r, r ∈ l → r.sm) : w_toEntryS l = some l := by
  unfold w_toEntryS
  rw [grd_pos (by omega)]
  have := w_toEntryS_l0_eq l [] (List.replicate l.length ⟨⟨⟨#[]⟩, 0⟩, 0, [], 0, 0⟩) (by simp) hs
  simpa using this

theorem w_toCache_eq {c : MCache} (h : c.sm) : w_toCache c = some c := by
  unfold w_toCache
  rw [w_toEntryS_eq (Nat.le_trans h.1 (by decide)) h.2, bnd1_mk]

theorem w_eqEntryS_l0_self : ∀ (t pre : List MEntry), w_eqEntryS_l0 (pre ++ t) t pre.length = some true
  | [], pre => rfl
  | r :: t, pre => by
    rw [w_eqEntryS_l0]
    have := w_eqEntryS_l0_self t (pre ++ [r])
    simp only [idx_nat]
    simp [w_eqEntry_self] at this ⊢
    exact this

theorem w_eqEntryS_self {l : List MEntry} : w_eqEntryS l l = some true := by
  unfold w_eqEntryS
  have := w_eqEntryS_l0_self l []
  simpa using this

theorem w_eqCache_self {c : MCache} : w_eqCache c c = some true := by unfold w_eqCache; simp [w_eqEntryS_self]

theorem slices_IndexFunc_Entry_l0_eq {g : MEntry → Option Bool} {p : MEntry → Bool} : ∀ (l : List MEntry) (i : Nat), (∀ r, r ∈ l → g r = some (p r)) → slices_IndexFunc_Entry_l0 g l i = some (match l.findIdx? p with | some k => ((i + k : Nat) : Int) | none => -1)
  | [], i, _ => rfl
  | e :: l, i, h => by
    rw [slices_IndexFunc_Entry_l0, h e (.head _), bnd1_mk, slices_IndexFunc_Entry_l0_eq l (i + 1) (fun r hr => h r (.tail _ hr)), List.findIdx?_cons]
    cases p e with
    | true => rfl
    | false =>
      simp only [cond_false, Bool.false_eq_true, if_false]
      cases l.findIdx? p with
      | none => rfl
      | some k => simp only [Option.map_some]; congr 2; omega

def atP (p : MEntry → Bool) (l : List MEntry) : Int := match l.findIdx? p with | some k => (k : Int) | none => -1

theorem slices_IndexFunc_Entry_eq {g : MEntry → Option Bool} {p : MEntry → Bool} {l : List MEntry} (h : ∀ r, r ∈ l → g r = some (p r)) : slices_IndexFunc_Entry l g = some (atP p l) := by
  unfold slices_IndexFunc_Entry atP
  rw [slices_IndexFunc_Entry_l0_eq l 0 h]
  cases l.findIdx? p with
  | none => rfl
  | some k => simp

theorem s_l15Entry_eq {e : MEntry} (h : e.sm) : s_l15Entry e = some e := by
  have hc : s_l7Copy e.l = some e.l := by unfold s_l7Copy; rw [List.nil_append, grd_pos (Nat.le_trans h.2.1 (by decide))]
  unfold s_l15Entry; rw [hc]; rfl

theorem i_copyEntry_eq {e : MEntry} (h : e.sm) : i_copyEntry e = some e := by
  unfold i_copyEntry; rw [slices_Clone_Record_eq (Nat.le_trans h.2.1 (by decide))]; rfl

theorem i_copyCache_l0_eq {c : MCache} : ∀ (l out : List MEntry) (i : Nat), (∀ e, e ∈ l → e.sm) → out.length + l.length ≤ 1099511627776 → i_copyCache_l0 c l out i = some (MCache.mk c.cap (out ++ l))
  | [], out, i, _, _ => by rw [i_copyCache_l0, List.append_nil]
  | e :: l, out, i, h, hl => by
    simp only [List.length_cons] at hl
    rw [i_copyCache_l0, i_copyEntry_eq (h e (.head _)), bnd1_mk, grd_pos (by simp; omega), i_copyCache_l0_eq l (out ++ [e]) (i + 1) (fun x hx => h x (.tail _ hx)) (by simp; omega)]
    simp

theorem i_copyCache_eq {c : MCache} (h : c.sm) : i_copyCache c = some c := by
  unfold i_copyCache; rw [i_copyCache_l0_eq _ _ _ h.2 (by have := h.1; simp; omega)]; rfl

theorem s_l15Lives_eq {e : MEntry} {now : Int} : s_l15Lives e now = some (decide (now < e.til)) := rfl

def expireP (c : MCache) (now : Int) : MCache := ⟨c.cap, c.l.filter fun e => decide (now < e.til)⟩

theorem s_Expire_l0_eq {c : MCache} {now : Int} : ∀ (l out : List MEntry) (i : Nat), (∀ e, e ∈ l → e.sm) → out.length + l.length ≤ 1099511627776 → s_Expire_l0 c now l out i = some (MCache.mk c.cap (out ++ l.filter fun e => decide (now < e.til)))
  | [], out, i, _, _ => by rw [s_Expire_l0, List.filter_nil, List.append_nil]
  | e :: l, out, i, h, hl => by
    simp only [List.length_cons] at hl
    have h1 := s_Expire_l0_eq (c := c) (now := now) l (out ++ [e]) (i + 1) (fun x hx => h x (.tail _ hx)) (by simp; omega)
    have h2 := s_Expire_l0_eq (c := c) (now := now) l out (i + 1) (fun x hx => h x (.tail _ hx)) (by omega)
    rw [s_Expire_l0, s_l15Lives_eq, bnd1_mk, s_l15Entry_eq (h e (.head _)), bnd1_mk, List.filter_cons]
    cases hd : decide (now < e.til)
    · rw [cond_false, h2]; rfl
    · rw [cond_true, grd_pos (by simp; omega), h1]; simp

theorem s_Expire_eq {c : MCache} {now : Int} (h : c.sm) : s_Expire c now = some (expireP c now) := by
  unfold s_Expire expireP; rw [s_Expire_l0_eq _ _ _ h.2 (by have := h.1; simp; omega)]; rfl

theorem slices_DeleteFunc_Entry_l1_eq {g : MEntry → Option Bool} {p : MEntry → Bool} : ∀ (R A J : List MEntry) (f : Nat), J ≠ [] → R.length < f → A.length + J.length + R.length ≤ 1099511627776 → (∀ r, r ∈ R → g r = some (p r)) → slices_DeleteFunc_Entry_l1 g f (A ++ (J ++ R)) (A.length : Int) ((A.length : Int) + (J.length : Int)) = some (A ++ R.filter (fun e => !p e), A ++ R.filter (fun e => !p e))
  | [], A, J, 0, _, hf, _, _ => by simp at hf
  | [], A, J, f + 1, _, _, _, _ => by
    have h1 : ((A ++ (J ++ [])).length : Int) = (A.length : Int) + (J.length : Int) := by simp
    have h2 : ¬ ((A.length : Int) + (J.length : Int) < ((A ++ (J ++ [])).length : Int)) := by omega
    rw [slices_DeleteFunc_Entry_l1, decide_eq_false h2, cond_false]
    unfold slices_DeleteFunc_Entry_j0
    rw [grd_pos (by omega), grd_pos (by omega)]
    simp
  | r :: R, A, J, 0, _, hf, _, _ => by simp at hf
  | r :: R, A, J, f + 1, hJ, hf, hl, hg => by
    obtain ⟨a, J', rfl⟩ : ∃ a J', J = a :: J' := by cases J with | nil => exact absurd rfl hJ | cons a J' => exact ⟨a, J', rfl⟩
    simp only [List.length_cons] at hf hl
    have h1 : (A.length : Int) + ((a :: J').length : Int) < ((A ++ (a :: J' ++ r :: R)).length : Int) := by simp; omega
    have e1 : idx (A ++ (a :: J' ++ r :: R)) ((A.length : Int) + ((a :: J').length : Int)) = some r := by
      rw [← Int.natCast_add, idx_nat, ← List.append_assoc, ← List.length_append, get_app]
    have e2 : idx (A ++ (a :: J' ++ r :: R)) (A.length : Int) = some a := by rw [idx_nat]; exact get_app _ _ _
    have i1 : i64 ((A.length : Int) + 1) := by simp only [i64]; omega
    have i2 : i64 ((A.length : Int) + ((a :: J').length : Int) + 1) := by simp only [i64, List.length_cons]; omega
    rw [slices_DeleteFunc_Entry_l1, decide_eq_true h1, cond_true, e1, bnd1_mk, hg r (.head _), bnd1_mk, e2, bnd1_mk, grd_pos i1, grd_pos i2, grd_pos i2, List.filter_cons]
    cases hp : p r
    · have ih := slices_DeleteFunc_Entry_l1_eq R (A ++ [r]) (J' ++ [r]) f (by simp) (by omega) (by simp; omega) fun x hx => hg x (.tail _ hx)
      have es : (A ++ (a :: J' ++ r :: R)).set (A.length : Int).toNat r = A ++ [r] ++ (J' ++ [r] ++ R) := by simp
      have k1 : ((A ++ [r]).length : Int) = (A.length : Int) + 1 := by simp
      have k2 : ((J' ++ [r]).length : Int) = ((a :: J').length : Int) := by simp
      rw [k1, k2, ← es, show (A.length : Int) + 1 + ((a :: J').length : Int) = (A.length : Int) + ((a :: J').length : Int) + 1 by omega] at ih
      rw [Bool.not_false, cond_true, ih]
      simp
    · have ih := slices_DeleteFunc_Entry_l1_eq R A (a :: J' ++ [r]) f (by simp) (by omega) (by simp; omega) fun x hx => hg x (.tail _ hx)
      have es : A ++ (a :: J' ++ r :: R) = A ++ (a :: J' ++ [r] ++ R) := by simp
      have k2 : ((a :: J' ++ [r]).length : Int) = ((a :: J').length : Int) + 1 := by simp
      rw [k2, ← es, ← Int.add_assoc] at ih
      rw [Bool.not_true, cond_false, ih]
      simp

theorem findIdx?_split {α : Type} {p : α → Bool} : ∀ (l : List α) (k : Nat), l.findIdx? p = some k → ∃ A e R, l = A ++ e :: R ∧ A.length = k ∧ p e = true ∧ ∀ x, x ∈ A → p x = false
  | [], k, h => by simp at h
  | x :: l, k, h => by
    rw [List.findIdx?_cons] at h
    cases hx : p x with
    | true =>
      rw [hx] at h; simp at h
      exact ⟨[], x, l, rfl, h, hx, fun y hy => by cases hy⟩
    | false =>
      rw [hx] at h; simp at h
      obtain ⟨j, hj, rfl⟩ := h
      obtain ⟨A, e, R, h1, h2, h3, h4⟩ := findIdx?_split l j hj
      exact ⟨x :: A, e, R, by rw [h1]; rfl, by simp [h2], h3, fun y hy => by
        cases hy with
        | head => exact hx
        | tail _ hy => exact h4 y hy⟩

theorem slices_DeleteFunc_Entry_eq {g : MEntry → Option Bool} {p : MEntry → Bool} {l : List MEntry} (hl : l.length ≤ 1048576) (h : ∀ r, r ∈ l → g r = some (p r)) : slices_DeleteFunc_Entry l g = some (l.filter (fun e => !p e), l.filter (fun e => !p e)) := by
  unfold slices_DeleteFunc_Entry
  rw [slices_IndexFunc_Entry_eq h, bnd1_mk]
  unfold atP
  cases hf : l.findIdx? p with
  | none =>
    have : l.filter (fun e => !p e) = l := by
      rw [List.findIdx?_eq_none_iff] at hf
      rw [List.filter_eq_self]; intro x hx; rw [hf x hx]; rfl
    rw [this]; rfl
  | some k =>
    obtain ⟨A, e, R, rfl, rfl, he, hA⟩ := findIdx?_split l k hf
    simp only [List.length_append, List.length_cons] at hl
    have h1 : ¬ ((A.length : Int) = -1) := by omega
    have h2 := slices_DeleteFunc_Entry_l1_eq (g := g) (p := p) R A [e] fuel0 (by simp) (by unfold fuel0; omega) (by simp; omega) fun x hx => h x (by simp [hx])
    have h3 : (A ++ e :: R).filter (fun e => !p e) = A ++ R.filter (fun e => !p e) := by
      rw [List.filter_append, List.filter_cons, he]
      have : A.filter (fun e => !p e) = A := by rw [List.filter_eq_self]; intro x hx; rw [hA x hx]; rfl
      rw [this]; rfl
    show (bif decide ((A.length : Int) = -1) then _ else _) = _
    rw [decide_eq_false h1, cond_false, grd_pos (by simp only [i64]; omega), h3]
    exact h2

theorem i_Expire_eq {c : MCache} {now : Int} (h : c.sm) : i_Expire c now = some (expireP c now) := by
  unfold i_Expire expireP
  rw [i_copyCache_eq h, bnd1_mk, slices_DeleteFunc_Entry_eq (g := fun a0 => i_Expire_1 a0 now) (p := fun e => decide (e.til ≤ now)) h.1 (fun r _ => rfl), bnd2_mk]
  congr 2
  refine List.filter_congr fun e _ => ?_
  rw [← decide_not]; congr 1; simp

theorem expireP_sm {c : MCache} {now : Int} (h : c.sm) : (expireP c now).sm := ⟨Nat.le_trans (List.length_filter_le _ _) h.1, fun e he => h.2 e (List.mem_filter.1 he).1⟩

theorem w_markEntryS_l0_p : ∀ (k fl : Nat) (l : List MEntry) (n : Int) (i : Nat), i + k = l.length → k < fl → (∀ z, z ∈ l → z.l.length ≤ 1048576) → 0 ≤ n → n + k * 8388608 ≤ 4611686018427380000 → l.length ≤ 1048576 → ∃ a m, w_markEntryS_l0 fl l n (i : Int) = some (a, m) ∧ m.length = l.length ∧ n ≤ a ∧ a ≤ n + k * 8388608
  | 0, fl, l, n, i, hi, hf, hz, h0, hn, hl => by
    obtain ⟨fl, rfl⟩ : ∃ q, fl = q + 1 := ⟨fl - 1, by omega⟩
    rw [w_markEntryS_l0, decide_eq_false (by omega), cond_false]
    exact ⟨n, l, rfl, rfl, Int.le_refl _, by omega⟩
  | k + 1, fl, l, n, i, hi, hf, hz, h0, hn, hl => by
    obtain ⟨fl, rfl⟩ : ∃ q, fl = q + 1 := ⟨fl - 1, by omega⟩
    obtain ⟨z, hx⟩ : ∃ z, l[i]? = some z := ⟨_, List.getElem?_eq_getElem (by omega)⟩
    have hm := List.mem_of_getElem? hx
    have h2 := hz z hm
    have e : ((i : Int) + 1) = ((i + 1 : Nat) : Int) := by omega
    rw [w_markEntryS_l0, decide_eq_true (by omega), cond_true, w_markText_eq (by omega), bnd1_mk, idx_nat, hx, bnd1_mk, grd_pos (by simp only [i64]; omega), grd_pos (by simp only [i64]; omega), grd_pos (by simp only [i64]; omega), w_markRecordS_eq (by omega) (by omega) (by omega), bnd2_mk, grd_pos (mkL_len _ _), grd_pos (by simp only [i64]; omega), grd_pos (by simp only [i64]; omega), grd_pos (by simp only [i64]; omega), e]
    obtain ⟨a, m, h3, h4, h5, h6⟩ := w_markEntryS_l0_p k fl (l.set (i : Int).toNat ⟨⟨mkT n, n + 1⟩, n + 1 + 1, mkL z.l (n + 1 + 1 + 1), n + 1 + 1 + 1 + 6 * z.l.length, n + 1 + 1 + 1 + 6 * z.l.length + 1⟩) (n + 1 + 1 + 1 + 6 * z.l.length + 1 + 1) (i + 1) (by rw [List.length_set]; omega) (by omega) (fun y hy => by
      rcases List.mem_or_eq_of_mem_set hy with hy | rfl
      · exact hz y hy
      · show (mkL z.l (n + 1 + 1 + 1)).length ≤ _; rw [mkL_len]; exact h2) (by omega) (by omega) (by rw [List.length_set]; omega)
    exact ⟨a, m, h3, by rw [h4, List.length_set], by omega, by omega⟩

theorem w_markCache_p {c : MCache} (h : c.sm) : ∃ a b, w_markCache c 1 = some (a, b) ∧ 0 ≤ a ∧ b.length = c.l.length ∧ a ≤ 10000000000000 := by
  obtain ⟨a, m, h1, h2, h3, h4⟩ := w_markEntryS_l0_p c.l.length fuel0 c.l 1 0 (by omega) (fuel_lt h.1) (fun z hz => (h.2 z hz).2.1) (by omega) (by have := h.1; omega) h.1
  have e1 : w_markEntryS c.l 1 = some (a, m) := h1
  unfold w_markCache
  rw [e1, bnd2_mk, grd_pos h2]
  exact ⟨_, _, rfl, by omega, h2, by have := h.1; omega⟩

def mkEn (e : MEntry) (n : Int) : MEntry := ⟨⟨mkT n, n + 1⟩, n + 1 + 1, mkL e.l (n + 1 + 1 + 1), n + 1 + 1 + 1 + 6 * e.l.length, n + 1 + 1 + 1 + 6 * e.l.length + 1⟩

def enN (e : MEntry) (n : Int) : Int := n + 1 + 1 + 1 + 6 * e.l.length + 1 + 1

def mkE : List MEntry → Int → List MEntry
  | [], _ => []
  | e :: l, n => mkEn e n :: mkE l (enN e n)

def enE : List MEntry → Int → Int
  | [], n => n
  | e :: l, n => enE l (enN e n)

theorem mkE_len : ∀ (l : List MEntry) (n : Int), (mkE l n).length = l.length
  | [], _ => rfl
  | e :: l, n => by rw [mkE, List.length_cons, mkE_len l, List.length_cons]

theorem enE_ge : ∀ (l : List MEntry) (n : Int), 0 ≤ n → 0 ≤ enE l n
  | [], _, h => h
  | e :: l, n, h => enE_ge l (enN e n) (by unfold enN; omega)

theorem w_markEntryS_l0_eq : ∀ (t A : List MEntry) (n : Int) (fl : Nat), t.length < fl → (∀ z, z ∈ t → z.l.length ≤ 1048576) → 0 ≤ n → n + t.length * 8388608 ≤ 4611686018427380000 → A.length + t.length ≤ 1048576 → w_markEntryS_l0 fl (A ++ t) n (A.length : Int) = some (enE t n, A ++ mkE t n)
  | [], A, n, fl, hf, hz, h0, hn, hl => by
    obtain ⟨fl, rfl⟩ : ∃ q, fl = q + 1 := ⟨fl - 1, by simp at hf; omega⟩
    rw [w_markEntryS_l0, decide_eq_false (by simp), cond_false]; rfl
  | e :: t, A, n, fl, hf, hz, h0, hn, hl => by
    simp only [List.length_cons] at hf hn hl
    obtain ⟨fl, rfl⟩ : ∃ q, fl = q + 1 := ⟨fl - 1, by omega⟩
    have h2 := hz e (.head _)
    have hx : (A ++ e :: t)[A.length]? = some e := by simp
    have e1 : ((A.length : Int) + 1) = ((A ++ [mkEn e n]).length : Int) := by simp
    have es : (A ++ e :: t).set (A.length : Int).toNat (mkEn e n) = (A ++ [mkEn e n]) ++ t := by simp
    have ih := w_markEntryS_l0_eq t (A ++ [mkEn e n]) (enN e n) fl (by omega) (fun z hm => hz z (.tail _ hm)) (by unfold enN; omega) (by unfold enN; omega) (by simp; omega)
    rw [← es, ← e1] at ih
    rw [w_markEntryS_l0, decide_eq_true (by simp; omega), cond_true, w_markText_eq (by omega), bnd1_mk, idx_nat, hx, bnd1_mk, grd_pos (by simp only [i64]; omega), grd_pos (by simp only [i64]; omega), grd_pos (by simp only [i64]; omega), w_markRecordS_eq (by omega) (by omega) (by omega), bnd2_mk, grd_pos (mkL_len _ _), grd_pos (by simp only [i64]; omega), grd_pos (by simp only [i64]; omega), grd_pos (by simp only [i64]; omega)]
    refine ih.trans ?_
    simp only [enE, mkE, List.append_assoc, List.singleton_append]

theorem w_heldEntryS_l0_eq : ∀ (t : List MEntry) (n : Int) (i : Nat), (∀ z, z ∈ t → z.l.length ≤ 1048576) → 0 ≤ n → n + t.length * 8388608 ≤ 4611686018427380000 → w_heldEntryS_l0 (mkE t n) n i = some (enE t n)
  | [], _, _, _, _, _ => rfl
  | e :: t, n, i, hz, h0, hn => by
    simp only [List.length_cons] at hn
    have h2 := hz e (.head _)
    have ih := w_heldEntryS_l0_eq t (enN e n) (i + 1) (fun z hm => hz z (.tail _ hm)) (by unfold enN; omega) (by unfold enN; omega)
    have e1 : (mkEn e n).q.name = mkT n := rfl
    have e2 : (mkEn e n).q.ty = n + 1 := rfl
    have e3 : (mkEn e n).kind = n + 1 + 1 := rfl
    have e4 : (mkEn e n).l = mkL e.l (n + 1 + 1 + 1) := rfl
    have e5 : (mkEn e n).rank = n + 1 + 1 + 1 + 6 * e.l.length := rfl
    have e6 : (mkEn e n).til = n + 1 + 1 + 1 + 6 * e.l.length + 1 := rfl
    rw [mkE, w_heldEntryS_l0, w_markText_eq (by omega), bnd1_mk, e1, decide_eq_true rfl, Bool.not_true, cond_false, grd_pos (by simp only [i64]; omega), e2, decide_eq_true rfl, Bool.not_true, cond_false, grd_pos (by simp only [i64]; omega), e3, decide_eq_true rfl, Bool.not_true, cond_false, grd_pos (by simp only [i64]; omega),
      e4, w_heldRecordS_eq (by omega) (by omega), bnd1_mk, decide_eq_false (by omega), cond_false, e5, decide_eq_true rfl, Bool.not_true, cond_false, grd_pos (by simp only [i64]; omega), e6, decide_eq_true rfl, Bool.not_true, cond_false, grd_pos (by simp only [i64]; omega)]
    exact ih

theorem w_markCache_eq {c : MCache} (h : c.sm) : w_markCache c 1 = some (enE c.l 1, mkE c.l 1) ∧ w_heldCache ⟨c.cap, mkE c.l 1⟩ 1 = some (enE c.l 1) ∧ 0 ≤ enE c.l 1 := by
  have hl := h.1
  have hz : ∀ z, z ∈ c.l → z.l.length ≤ 1048576 := fun z hz => (h.2 z hz).2.1
  have h1 : w_markEntryS c.l 1 = some (enE c.l 1, mkE c.l 1) := w_markEntryS_l0_eq c.l [] 1 fuel0 (fuel_lt hl) hz (by omega) (by omega) (by simpa using hl)
  have h2 : w_heldEntryS (mkE c.l 1) 1 = some (enE c.l 1) := w_heldEntryS_l0_eq c.l 1 0 hz (by omega) (by omega)
  have h3 := enE_ge c.l 1 (by omega)
  refine ⟨?_, ?_, h3⟩
  · unfold w_markCache
    rw [h1, bnd2_mk, grd_pos (mkE_len _ _)]
  · unfold w_heldCache
    rw [h2, bnd1_mk, decide_eq_false (by omega), cond_false]

theorem law_Expire {c : MCache} {now : Int} (hc : c.ok) (_ : i64 now) : w_FnExactExpire c now = some true := by
  unfold w_FnExactExpire
  obtain ⟨v, h3, h4, h5⟩ := w_szCache_p hc (n := 1048576) (by omega)
  rw [h3]
  by_cases k : v < 0
  · simp [k]
  · have h6 := h5 (by omega)
    have e1 := s_Expire_eq (now := now) h6
    have e2 := i_Expire_eq (now := now) h6
    have hx := expireP_sm (now := now) h6
    generalize expireP c now = x at e1 e2 hx
    obtain ⟨a, m, g1, g2, g3, -⟩ := w_markCache_p h6
    obtain ⟨r1, r2, r3⟩ := w_markCache_eq hx
    have c2 : ¬ (a < 0) := by omega
    have c3 : ¬ (enE x.l 1 < 0) := by omega
    simp [k, w_toCache_eq h6, e1, e2, w_eqCache_self, g1, g3, grd_pos, c2, w_FnExactExpire_j0, r1, mkE_len, r2, c3]
end Go.Abs.M
