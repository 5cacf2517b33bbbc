/- The pure law of SameFact: its pure function answers true. -/
import Derived.Test.YtaacegjkiccijaaFnsSameFact
namespace Go.Abs.M
open Go Go.Abs
theorem idx_nat {α : Type} {l : List α} {n : Nat} : idx l (n : Int) = l[n]? := by simp [idx]

theorem w_toRecord_eq {r : Rec} : w_toRecord r = some r := rfl

theorem w_toRecordS_l0_eq : ∀ (t pre : List Rec) (z : List Rec), z.length = t.length → w_toRecordS_l0 t (pre ++ z) pre.length = some (pre ++ t)
  | [], pre, z, hz => by cases z with | nil => rfl | cons a b => simp at hz
  | r :: t, pre, z, hz => by
    cases z with
    | nil => simp at hz
    | cons a z =>
      rw [w_toRecordS_l0]
      have := w_toRecordS_l0_eq t (pre ++ [r]) z (by simpa using hz)
      simp only [w_toRecord_eq, bnd1_mk, idx_nat]
      simp [bnd1] at this ⊢
      simpa using this

theorem w_toRecordS_eq {l : List Rec} (h : l.length ≤ 1099511627776) : w_toRecordS l = some l := by
  unfold w_toRecordS
  rw [grd_pos (by omega)]
  have := w_toRecordS_l0_eq l [] (List.replicate l.length ⟨⟨#[]⟩, 0, 0, 0, ⟨#[]⟩, ⟨#[]⟩⟩) (by simp)
  simpa using this

theorem w_eqRecord_self {a : Rec} : w_eqRecord a a = some true := by unfold w_eqRecord; simp

theorem w_eqRecordS_l0_self : ∀ (t pre : List Rec), w_eqRecordS_l0 (pre ++ t) t pre.length = some true
  | [], pre => rfl
  | r :: t, pre => by
    rw [w_eqRecordS_l0]
    have := w_eqRecordS_l0_self t (pre ++ [r])
    simp only [idx_nat]
    simp [w_eqRecord_self] at this ⊢
    exact this

theorem w_eqRecordS_self {l : List Rec} : w_eqRecordS l l = some true := by
  unfold w_eqRecordS
  have := w_eqRecordS_l0_self l []
  simpa using this

def Rec.sm (r : Rec) : Prop := r.name.size ≤ 1048576 ∧ r.host.size ≤ 1048576 ∧ r.text.size ≤ 1048576

def smL (l : List Rec) : Prop := l.length ≤ 1048576 ∧ ∀ r, r ∈ l → r.sm

def okL (l : List Rec) : Prop := l.length ≤ 9223372036854775807 ∧ ∀ r, r ∈ l → r.ok

theorem w_szRecord_p {r : Rec} {n : Int} (hr : r.ok) (hn : 0 ≤ n ∧ n ≤ 1048576) : ∃ v, w_szRecord r n = some v ∧ v ≤ n ∧ (0 ≤ v → r.sm) := by
  obtain ⟨h1, -, -, -, h2, h3⟩ := hr
  unfold w_szRecord Rec.sm
  rw [grd_pos (by simp only [i64]; omega)]
  by_cases c1 : n - (r.name.size : Int) < 0
  · exact ⟨-1, by simp [c1], by omega, by omega⟩
  · simp only [c1, decide_false, cond_false]
    rw [grd_pos (by simp only [i64]; omega)]
    by_cases c2 : n - (r.name.size : Int) - (r.host.size : Int) < 0
    · exact ⟨-1, by simp [c2], by omega, by omega⟩
    · simp only [c2, decide_false, cond_false]
      rw [grd_pos (by simp only [i64]; omega)]
      by_cases c3 : n - (r.name.size : Int) - (r.host.size : Int) - (r.text.size : Int) < 0
      · exact ⟨-1, by simp [c3], by omega, by omega⟩
      · exact ⟨_, by simp only [c3, decide_false, cond_false]; rfl, by omega, by omega⟩

theorem w_szRecordS_l0_p : ∀ (l : List Rec) (n : Int) (i : Nat), (∀ r, r ∈ l → r.ok) → 0 ≤ n ∧ n ≤ 1048576 → ∃ v, w_szRecordS_l0 l n i = some v ∧ v ≤ n ∧ (0 ≤ v → ∀ r, r ∈ l → r.sm)
  | [], n, i, _, _ => ⟨n, rfl, Int.le_refl _, fun _ r hr => by cases hr⟩
  | r :: l, n, i, hr, hn => by
    obtain ⟨v, h1, h2, h2'⟩ := w_szRecord_p (hr r (.head _)) hn
    rw [w_szRecordS_l0, h1]
    by_cases c : v < 0
    · exact ⟨-1, by simp [c], by omega, by omega⟩
    · obtain ⟨w, h3, h4, h5⟩ := w_szRecordS_l0_p l v (i + 1) (fun q hq => hr q (.tail _ hq)) (by omega)
      exact ⟨w, by simp [c, h3], by omega, fun h q hq => by
        cases hq with
        | head => exact h2' (by omega)
        | tail _ hq => exact h5 h q hq⟩

theorem w_szRecordS_p {l : List Rec} {n : Int} (hl : okL l) (hn : 0 ≤ n ∧ n ≤ 1048576) : ∃ v, w_szRecordS l n = some v ∧ v ≤ n ∧ (0 ≤ v → smL l) := by
  obtain ⟨h0, hr⟩ := hl
  unfold w_szRecordS
  rw [grd_pos (by simp only [i64]; omega)]
  by_cases c : n - (l.length : Int) < 0
  · exact ⟨-1, by simp [c], by omega, by omega⟩
  · obtain ⟨v, h1, h2, h3⟩ := w_szRecordS_l0_p l (n - l.length) 0 hr (by omega)
    exact ⟨v, by simp [c, h1], by omega, fun h => ⟨by omega, h3 h⟩⟩

theorem slices_IndexFunc_Record_l0_eq {g : Rec → Option Bool} {p : Rec → Bool} : ∀ (l : List Rec) (i : Nat), (∀ r, r ∈ l → g r = some (p r)) → ∃ v, slices_IndexFunc_Record_l0 g l i = some v ∧ decide (0 ≤ v) = l.any p
  | [], i, _ => ⟨-1, rfl, rfl⟩
  | r :: l, i, h => by
    rw [slices_IndexFunc_Record_l0, h r (.head _), bnd1_mk]
    cases c : p r with
    | true => exact ⟨i, rfl, by simp [c]⟩
    | false =>
      obtain ⟨v, h1, h2⟩ := slices_IndexFunc_Record_l0_eq l (i + 1) fun q hq => h q (.tail _ hq)
      exact ⟨v, h1, by simp [c, h2]⟩

theorem slices_ContainsFunc_Record_eq {g : Rec → Option Bool} {p : Rec → Bool} {l : List Rec} (h : ∀ r, r ∈ l → g r = some (p r)) : slices_ContainsFunc_Record l g = some (l.any p) := by
  obtain ⟨v, h1, h2⟩ := slices_IndexFunc_Record_l0_eq l 0 h
  unfold slices_ContainsFunc_Record slices_IndexFunc_Record
  rw [h1, bnd1_mk, h2]

theorem set_app {α : Type} (pre t : List α) (x y : α) : (pre ++ x :: t).set pre.length y = pre ++ y :: t := by simp

theorem get_app {α : Type} (pre t : List α) (x : α) : (pre ++ x :: t)[pre.length]? = some x := by simp

theorem rec_ext {a b : Rec} : (decide (a.name = b.name) && (decide (a.ty = b.ty) && (decide (a.ttl = b.ttl) && (decide (a.n = b.n) && (decide (a.host = b.host) && (decide (a.text = b.text) && true)))))) = decide (a = b) := by
  cases a; cases b
  simp [Bool.and_assoc]

def zt (r : Rec) : Rec := ⟨r.name, r.ty, 0, r.n, r.host, r.text⟩

theorem zt_ext {a b : Rec} {x : Int} : (decide (a.name = b.name) && (decide (a.ty = b.ty) && (decide (x = x) && (decide (a.n = b.n) && (decide (a.host = b.host) && (decide (a.text = b.text) && true)))))) = decide (zt a = zt b) := by
  cases a; cases b
  simp [zt, Bool.and_assoc]

theorem slices_Clone_Record_eq {l : List Rec} (h : l.length ≤ 1099511627776) : slices_Clone_Record l = some l := by
  unfold slices_Clone_Record
  rw [List.nil_append, grd_pos h]

def setTtl (k : Int) (r : Rec) : Rec := ⟨r.name, r.ty, k, r.n, r.host, r.text⟩

theorem i_WithTtl_l0_eq (k : Int) : ∀ (t pre : List Rec), i_WithTtl_l0 k t (pre ++ t) pre.length = some (pre ++ t.map (setTtl k))
  | [], pre => by simp [i_WithTtl_l0]
  | r :: t, pre => by
    rw [i_WithTtl_l0, idx_nat, get_app, bnd1_mk, Int.toNat_natCast, set_app]
    have h := i_WithTtl_l0_eq k t (pre ++ [setTtl k r])
    simp only [List.append_assoc, List.singleton_append, List.length_append, List.length_singleton] at h
    unfold setTtl at h ⊢
    rw [h]
    simp

theorem i_WithTtl_eq {l : List Rec} {k : Int} (h : l.length ≤ 1099511627776) : i_WithTtl l k = some (l.map (setTtl k)) := by
  unfold i_WithTtl
  rw [slices_Clone_Record_eq h, bnd1_mk]
  exact i_WithTtl_l0_eq k l []

theorem slices_Equal_Record_l0_eq : ∀ (t : List Rec) (pre q : List Rec), t.length = q.length → slices_Equal_Record_l0 (pre ++ q) t pre.length = some (decide (t = q))
  | [], pre, q, h => by cases q with | nil => rfl | cons a b => simp at h
  | x :: t, pre, q, h => by
    cases q with
    | nil => simp at h
    | cons y q =>
      rw [slices_Equal_Record_l0, idx_nat, get_app, bnd1_mk, rec_ext]
      have := slices_Equal_Record_l0_eq t (pre ++ [y]) q (by simpa using h)
      simp only [List.length_append, List.length_singleton, List.append_assoc, List.singleton_append] at this
      by_cases c : x = y <;> simp [c, this]

theorem slices_Equal_Record_eq {a b : List Rec} : slices_Equal_Record a b = some (decide (a = b)) := by
  unfold slices_Equal_Record
  by_cases c : a.length = b.length
  · have := slices_Equal_Record_l0_eq a [] b c
    simpa [c] using this
  · have c' : a ≠ b := fun h => c (by rw [h])
    have c2 : ¬ ((a.length : Int) = (b.length : Int)) := by omega
    simp [c2, c']

theorem s_l13SameLinks_l0_eq : ∀ (t : List Rec) (pre q : List Rec), t.length = q.length → s_l13SameLinks_l0 (pre ++ q) t pre.length = some (decide (t.map zt = q.map zt))
  | [], pre, q, h => by cases q with | nil => rfl | cons a b => simp at h
  | x :: t, pre, q, h => by
    cases q with
    | nil => simp at h
    | cons y q =>
      rw [s_l13SameLinks_l0, idx_nat, get_app, bnd1_mk, zt_ext]
      have := s_l13SameLinks_l0_eq t (pre ++ [y]) q (by simpa using h)
      simp only [List.length_append, List.length_singleton, List.append_assoc, List.singleton_append] at this
      by_cases c : zt x = zt y <;> simp [c, this]

theorem s_l13SameLinks_eq {a b : List Rec} : s_l13SameLinks a b = some (decide (a.map zt = b.map zt)) := by
  unfold s_l13SameLinks
  by_cases c : a.length = b.length
  · have := s_l13SameLinks_l0_eq a [] b c
    simpa [c] using this
  · have c' : ¬ (a.map zt = b.map zt) := fun h => c (by have := congrArg List.length h; simpa using this)
    have c2 : ¬ ((a.length : Int) = (b.length : Int)) := by omega
    simp [c2, c']

def within (a b : List Rec) : Bool := a.all fun r => b.any fun x => decide (zt x = zt r)

theorem slices_Index_Record_l0_eq {r : Rec} : ∀ (l : List Rec) (i : Nat), ∃ v, slices_Index_Record_l0 r l i = some v ∧ decide (0 ≤ v) = l.any fun x => decide (r = x)
  | [], i => ⟨-1, rfl, rfl⟩
  | x :: l, i => by
    rw [slices_Index_Record_l0, rec_ext]
    by_cases c : r = x
    · exact ⟨i, by simp [c], by simp [c]⟩
    · obtain ⟨v, h1, h2⟩ := slices_Index_Record_l0_eq (r := r) l (i + 1)
      exact ⟨v, by simp [c, h1], by rw [h2]; simp [c]⟩

theorem slices_Contains_Record_eq {l : List Rec} {r : Rec} : slices_Contains_Record l r = some (l.any fun x => decide (r = x)) := by
  obtain ⟨v, h1, h2⟩ := slices_Index_Record_l0_eq (r := r) l 0
  unfold slices_Contains_Record slices_Index_Record
  rw [h1, bnd1_mk, h2]

theorem i_within_eq {a b : List Rec} (ha : a.length ≤ 1048576) (hb : b.length ≤ 1048576) : i_within a b = some (within a b) := by
  unfold i_within
  rw [i_WithTtl_eq (by omega), bnd1_mk, i_WithTtl_eq (by omega), bnd1_mk,
    slices_ContainsFunc_Record_eq (p := fun r => !(b.map (setTtl 0)).any fun x => decide (r = x)) fun r _ => by unfold i_within_1; rw [slices_Contains_Record_eq]; rfl]
  rw [bnd1_mk]
  congr 1
  unfold within
  rw [List.any_map, List.not_any_eq_all_not]
  congr 1
  funext r
  simp only [Function.comp, Bool.not_not, List.any_map]
  congr 1
  funext x
  exact decide_eq_decide.2 ⟨fun h => h.symm, fun h => h.symm⟩

theorem i_SameData_eq {a b : List Rec} (ha : a.length ≤ 1048576) (hb : b.length ≤ 1048576) : i_SameData a b = some (within a b && within b a) := by
  unfold i_SameData
  rw [i_within_eq ha hb, bnd1_mk, i_within_eq hb ha]
  cases within a b <;> rfl

theorem s_l9In_l0_eq {r : Rec} : ∀ (l : List Rec) (i : Nat), s_l9In_l0 r l i = some (l.any fun x => decide (zt x = zt r))
  | [], i => rfl
  | x :: l, i => by
    rw [s_l9In_l0, zt_ext, s_l9In_l0_eq l (i + 1)]
    by_cases c : zt x = zt r <;> simp [c]

theorem s_SameData_l2_eq {a : List Rec} : ∀ (l : List Rec) (i : Nat), s_SameData_l2 a l i = some (within l a)
  | [], i => rfl
  | r :: l, i => by
    rw [s_SameData_l2, s_l9In, s_l9In_l0_eq, bnd1_mk, s_SameData_l2_eq l (i + 1)]
    unfold within
    rw [List.all_cons]
    cases a.any fun x => decide (zt x = zt r) <;> rfl

theorem s_SameData_l1_eq {a b : List Rec} : ∀ (l : List Rec) (i : Nat), s_SameData_l1 a b l i = some (within l b && within b a)
  | [], i => by rw [s_SameData_l1, s_SameData_j0, s_SameData_l2_eq]; rfl
  | r :: l, i => by
    rw [s_SameData_l1, s_l9In, s_l9In_l0_eq, bnd1_mk, s_SameData_l1_eq l (i + 1)]
    conv => rhs; rw [within]
    rw [List.all_cons]
    cases b.any fun x => decide (zt x = zt r) <;> rfl

theorem s_SameData_eq {a b : List Rec} : s_SameData a b = some (within a b && within b a) := s_SameData_l1_eq a 0

def MFact.sm (x : MFact) : Prop := smL x.links ∧ smL x.l

theorem w_szFact_p {x : MFact} {n : Int} (hx : x.ok) (hn : 0 ≤ n ∧ n ≤ 1048576) : ∃ v, w_szFact x n = some v ∧ v ≤ n ∧ (0 ≤ v → x.sm) := by
  obtain ⟨-, h4, h5⟩ := hx
  unfold w_szFact
  obtain ⟨b, b1, b2, b3⟩ := w_szRecordS_p h4 hn
  by_cases c' : b < 0
  · exact ⟨-1, by simp [b1, c'], by omega, by omega⟩
  obtain ⟨d, d1, d2, d3⟩ := w_szRecordS_p h5 (n := b) (by omega)
  by_cases c2 : d < 0
  · exact ⟨-1, by simp [b1, c', d1, c2], by omega, by omega⟩
  · exact ⟨d, by simp [b1, c', d1, c2], by omega, fun _ => ⟨b3 (by omega), d3 (by omega)⟩⟩

theorem w_toFact_eq {x : MFact} (h : x.sm) : w_toFact x = some x := by
  unfold w_toFact; simp [w_toRecordS_eq (Nat.le_trans h.1.1 (by decide)), w_toRecordS_eq (Nat.le_trans h.2.1 (by decide))]

theorem w_eqFact_self {x : MFact} : w_eqFact x x = some true := by unfold w_eqFact; simp [w_eqRecordS_self]

def sameFact (x y : MFact) : Bool := decide (x.code = y.code) && ((x.fin == y.fin) && (decide (x.links.map zt = y.links.map zt) && (within x.l y.l && within y.l x.l)))

theorem s_SameFact_eq {x y : MFact} : s_SameFact x y = some (sameFact x y) := by
  unfold s_SameFact sameFact
  rw [s_l13SameLinks_eq, s_SameData_eq]
  cases decide (x.code = y.code) <;> cases (x.fin == y.fin) <;> simp
  cases decide (x.links.map zt = y.links.map zt) <;> rfl

theorem i_SameFact_eq {x y : MFact} (hx : x.sm) (hy : y.sm) : i_SameFact x y = some (sameFact x y) := by
  have h1 := hx.1.1
  have h2 := hy.1.1
  unfold i_SameFact sameFact i_SameRecords
  rw [i_WithTtl_eq (by omega), i_WithTtl_eq (by omega), i_SameData_eq hx.2.1 hy.2.1]
  simp only [bnd1_mk, slices_Equal_Record_eq]
  have e : (fun r => setTtl 0 r) = zt := rfl
  have e2 : setTtl 0 = zt := rfl
  rw [e2]
  cases decide (x.code = y.code) <;> cases (x.fin == y.fin) <;> simp
  cases decide (x.links.map zt = y.links.map zt) <;> rfl

theorem law_SameFact {x y : MFact} (hx : x.ok) (hy : y.ok) : w_FnExactSameFact x y = some true := by
  unfold w_FnExactSameFact
  obtain ⟨v, h3, h4, h5⟩ := w_szFact_p hx (n := 1048576) (by omega)
  rw [h3]
  by_cases c : v < 0
  · simp [c]
  obtain ⟨u, k3, k4, k5⟩ := w_szFact_p hy (n := v) (by omega)
  rw [bnd1_mk, k3]
  by_cases c' : u < 0
  · simp [c, c']
  · have h6 := h5 (by omega)
    have k6 := k5 (by omega)
    simp [c, c', w_toFact_eq h6, w_toFact_eq k6, s_SameFact_eq, i_SameFact_eq h6 k6, w_eqFact_self]
end Go.Abs.M
