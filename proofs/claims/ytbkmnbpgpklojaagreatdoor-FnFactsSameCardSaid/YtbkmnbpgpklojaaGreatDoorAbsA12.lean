/- The abstract layer, part A12. -/
import Derived.Test.YtbkmnbpgpklojaaGreatDoorAbsA11
namespace Go.Abs
open Go
inductive Cv (hp : Heap) (src : Nm → Option Nm) (D : List Nm) (N : Nm → Option Nat) : V → V → Prop where
 | undef {x : V} : Cv hp src D N x .undef
 | free {x : V} (h : x.free = true) : Cv hp src D N x x
 | nils {z : Nat} : Cv hp src D N .nils (.lst z [])
 | empty {z z' : Nat} : Cv hp src D N (.lst z []) (.lst z' [])
 | nilRef {n : Nm} {z : Nat} (h : N n = some z) : Cv hp src D N .nils (.ref n 0 0)
 | ref {n m : Nm} {off len : Nat} (h : src n = some m) : Cv hp src D N (.ref m off len) (.ref n off len)
 | ptr {n m : Nm} {r c : Nat} (h : src n = some m) : Cv hp src D N (.ptr m r c) (.ptr n r c)
 | refLst {n : Nm} {E : Entry} {off len : Nat} {rows' : List (List V)} (hn : hp n = some (some E)) (hk : n ∈ D) (hl : off + len ≤ E.rows.length) (hlen : rows'.length = len) (hz : ∀ r, r ∈ rows' → r.length = E.z)
   (sr : Nat → Nat → V) (h1 : ∀ i j x, cellAt rows' i j = some x → cellAt E.rows (off + i) j = some (sr i j)) (h2 : ∀ i j x, cellAt rows' i j = some x → Cv hp src D N (sr i j) x)
   (h3 : ∀ i j x, cellAt rows' i j = some x → x.free = true) : Cv hp src D N (.ref n off len) (.lst E.z rows')
 | ptrLst {n : Nm} {E : Entry} {r c : Nat} {rows' : List (List V)} (hn : hp n = some (some E)) (hk : n ∈ D) (hz : ∀ r, r ∈ rows' → r.length = E.z)
   (sr : Nat → Nat → V) (h1 : ∀ i j x, cellAt rows' i j = some x → cellAt E.rows i j = some (sr i j)) (h2 : ∀ i j x, cellAt rows' i j = some x → Cv hp src D N (sr i j) x)
   (h3 : ∀ i j x, cellAt rows' i j = some x → x.free = true) : Cv hp src D N (.ptr n r c) (.lptr E.z rows' r c)
 | agg {xs ys : List V} (hl : xs.length = ys.length) (h : ∀ (i : Nat) x y, xs[i]? = some x → ys[i]? = some y → Cv hp src D N x y) : Cv hp src D N (.agg xs) (.agg ys)
 | tup {xs ys : List V} (hl : xs.length = ys.length) (h : ∀ (i : Nat) x y, xs[i]? = some x → ys[i]? = some y → Cv hp src D N x y) : Cv hp src D N (.tup xs) (.tup ys)
 | fn {f : FuncId} {xs ys : List V} (hl : xs.length = ys.length) (h : ∀ (i : Nat) x y, xs[i]? = some x → ys[i]? = some y → Cv hp src D N x y) : Cv hp src D N (.fn f xs) (.fn f ys)
section
variable {w0 : World} {M0 : Base} {F0 : Nat → Prop} {st : St} {w : World} {φ : Env} {F : Nat → Prop}
def reEnv (φ : Env) (src : Nm → Option Nm) (N : Nm → Option Nat) : Env := fun m => match N m with | some z => some (z, .nil) | none => (src m).bind φ
def reF (hp : Heap) (φ : Env) (F : Nat → Prop) (D : List Nm) : Nat → Prop := fun b => F b ∨ ∃ n z cap E, n ∈ D ∧ hp n = some (some E) ∧ φ n = some (z, .at b cap)
theorem rep_empty {F : Nat → Prop} {φ : Env} {z cap : Nat} {ad : Option Addr} (hm : cap ≤ maxLen) : Rep w F φ (.lst z []) (.slice ad 0 cap) :=
 .lst (rows := []) 0 0 (fun _ _ => Go.undef) (fun h => absurd rfl h) (Nat.zero_le _) hm (by simp) (fun i j x hx => by simp [cellAt] at hx) (fun i j x hx => by simp [cellAt] at hx) (fun i j x hx => by simp [cellAt] at hx) (fun i j x hx => by simp [cellAt] at hx)
theorem cv_rep {tm : Array Value} (h : Sat w0 M0 F0 st tm w φ F) {src : Nm → Option Nm} {D : List Nm} {N : Nm → Option Nat} (hN : ∀ n m, src n = some m → N n = none) {x y : V} (hr : Cv st.hp src D N x y) :
    ∀ v, Rep w F φ x v → Rep w (reF st.hp φ F D) (reEnv φ src N) y v := by
  have hF : ∀ c, F c → reF st.hp φ F D c := fun c hc => .inl hc
  induction hr with
  | undef => exact fun v _ => .undef
  | @free x hf => exact fun v hv => (hv.mono (w' := w) (fun _ _ => rfl) hF (fun _ _ h => h)).unname hf
  | nils => intro v hv; cases hv; exact rep_empty (by decide)
  | empty =>
    intro v hv
    obtain ⟨ad, cap, rfl, h1, h2⟩ := rep_slen hv rfl
    exact rep_empty h2
  | @nilRef n z hn => intro v hv; cases hv; exact .refNil (z := z) (by simp [reEnv, hn])
  | @ref n m off len hi =>
    intro v hv
    have e : reEnv φ src N n = φ m := by simp [reEnv, hN n m hi, hi]
    cases hv with
    | refNil h1 => exact .refNil (e.trans h1)
    | ref h1 hl hm ho => exact .ref (e.trans h1) hl hm ho
  | @ptr n m r c hi =>
    intro v hv
    have e : reEnv φ src N n = φ m := by simp [reEnv, hN n m hi, hi]
    cases hv with
    | ptr h1 => exact .ptr (e.trans h1)
  | @refLst n E off len rows' hn hk hl hlen hz sr h1 h2 h3 ih =>
    intro v hv
    obtain ⟨loc, g1, g2, -⟩ := h.obj n E hn
    subst hlen
    generalize hq : rows'.length = q at hv
    cases hv with
    | refNil h4 =>
      have hr0 : rows' = [] := List.eq_nil_of_length_eq_zero hq
      subst hr0
      exact rep_empty (by decide)
    | ref h4 hle hm hoff =>
      rename_i z b cap o'
      rw [g1] at h4
      obtain ⟨rfl, rfl⟩ : E.z = z ∧ loc = Loc.at b cap := by simpa using h4
      obtain ⟨arr, fz, q1, qs, q2, q3, q4, q5, q6, q7⟩ := g2
      have hat : ∀ i j x, cellAt rows' i j = some x → i < rows'.length := fun i j x hx => by
        unfold cellAt at hx
        cases hr : rows'[i]? with
        | none => simp [hr] at hx
        | some r => exact (List.getElem?_eq_some_iff.1 hr).1
      have hget : ∀ i j x, cellAt rows' i j = some x → ∃ u, arr.getD ((off + i) * E.z + j) Go.undef = u ∧ arr[(off + i) * E.z + j]? = some u ∧ u.oneCell' = true ∧ Rep w F φ (sr i j) u := fun i j x hx => by
        obtain ⟨u, u1, u2, u3⟩ := q7 _ _ _ (h1 i j x hx)
        exact ⟨u, by simp [u1], u1, u2, u3⟩
      rw [← hq]
      refine .lst b o' (fun i j => arr.getD ((off + i) * E.z + j) Go.undef) (fun _ => rfl) (by omega) (by omega) hz (fun i j x hx => .inr ⟨n, E.z, cap, E, hk, hn, g1⟩) (fun i j x hx => ?_) (fun i j x hx => ?_) (fun i j x hx => ?_)
      · obtain ⟨u, u1, u2, u3, u4⟩ := hget i j x hx
        have hi := hat i j x hx
        simp only [u1]
        rw [cell_of_row w b _ arr E.e fz q1, ← u2, hoff (by omega), Nat.add_mul]
      · obtain ⟨u, u1, u2, u3, u4⟩ := hget i j x hx
        simp only [u1]; exact u3
      · obtain ⟨u, u1, u2, u3, u4⟩ := hget i j x hx
        simp only [u1]; exact (ih i j x hx u u4).unname (h3 i j x hx)
  | @ptrLst n E r c rows' hn hk hz sr h1 h2 h3 ih =>
    intro v hv
    obtain ⟨loc, g1, g2, -⟩ := h.obj n E hn
    cases hv with
    | ptr h4 =>
      rename_i z b cap
      rw [g1] at h4
      obtain ⟨rfl, rfl⟩ : E.z = z ∧ loc = Loc.at b cap := by simpa using h4
      obtain ⟨arr, fz, q1, qs, q2, q3, q4, q5, q6, q7⟩ := g2
      have hget : ∀ i j x, cellAt rows' i j = some x → ∃ u, arr.getD (i * E.z + j) Go.undef = u ∧ arr[i * E.z + j]? = some u ∧ u.oneCell' = true ∧ Rep w F φ (sr i j) u := fun i j x hx => by
        obtain ⟨u, u1, u2, u3⟩ := q7 _ _ _ (h1 i j x hx)
        exact ⟨u, by simp [u1], u1, u2, u3⟩
      have hh := Rep.lptr (w := w) (F := reF st.hp φ F D) (φ := reEnv φ src N) (z := E.z) (rows := rows') (r := r) (c := c) b 0 (fun i j => arr.getD (i * E.z + j) Go.undef) hz (fun i j x hx => .inr ⟨n, E.z, cap, E, hk, hn, g1⟩)
        (fun i j x hx => by
          obtain ⟨u, u1, u2, u3, u4⟩ := hget i j x hx
          simp only [u1]
          rw [cell_of_row w b _ arr E.e fz q1, ← u2]; congr 1; omega)
        (fun i j x hx => by obtain ⟨u, u1, u2, u3, u4⟩ := hget i j x hx; simp only [u1]; exact u3)
        (fun i j x hx => by obtain ⟨u, u1, u2, u3, u4⟩ := hget i j x hx; simp only [u1]; exact (ih i j x hx u u4).unname (h3 i j x hx))
      simpa using hh
  | @agg xs ys hl h ih =>
    intro v hv
    obtain ⟨vs, rfl, h1, h2, h3⟩ := hv.agg_inv
    refine .agg (by omega) (fun i y v hy hv => ?_) h3
    have hi : i < xs.length := by rw [hl]; exact (List.getElem?_eq_some_iff.1 hy).1
    exact ih i _ y (List.getElem?_eq_getElem hi) hy v (h2 i _ v (List.getElem?_eq_getElem hi) hv)
  | @tup xs ys hl h ih =>
    intro v hv
    obtain ⟨vs, rfl, h1, h2⟩ := hv.tup_inv
    refine .tup (by omega) (fun i y v hy hv => ?_)
    have hi : i < xs.length := by rw [hl]; exact (List.getElem?_eq_some_iff.1 hy).1
    exact ih i _ y (List.getElem?_eq_getElem hi) hy v (h2 i _ v (List.getElem?_eq_getElem hi) hv)
  | @fn f xs ys hl h ih =>
    intro v hv
    obtain ⟨vs, rfl, h1, h2⟩ := hv.fn_inv
    refine .fn (by omega) (fun i y v hy hv => ?_)
    have hi : i < xs.length := by rw [hl]; exact (List.getElem?_eq_some_iff.1 hy).1
    exact ih i _ y (List.getElem?_eq_getElem hi) hy v (h2 i _ v (List.getElem?_eq_getElem hi) hv)
structure Re (st : St) (hp' : Heap) (src : Nm → Option Nm) (D : List Nm) (N : Nm → Option Nat) : Prop where
 drop : ∀ n, n ∈ D → ∃ E, st.hp n = some (some E) ∧ E.mine = true
 new : ∀ n m, src n = some m → N n = none
 live : ∀ n E', hp' n = some (some E') → (N n = some E'.z ∧ E'.rows = []) ∨
  ∃ m E, src n = some m ∧ st.hp m = some (some E) ∧ m ∉ D ∧ E'.e = E.e ∧ E'.z = E.z ∧ E'.str = E.str ∧ (E'.mine = true → E.mine = true) ∧ E'.rows.length ≤ E.rows.length ∧ (∀ r, r ∈ E'.rows → r.length = E'.z) ∧
   ∀ i j y, cellAt E'.rows i j = some y → ∃ x, cellAt E.rows i j = some x ∧ Cv st.hp src D N x y
 inj : ∀ n n' E E' m, hp' n = some (some E) → hp' n' = some (some E') → src n = some m → src n' = some m → n = n'
 dead : ∀ n, hp' n = none → src n = none ∧ N n = none
 base : ∀ i, st.hp (1000, i) ≠ none → src (1000, i) = some (1000, i)
theorem Sat.re {tm tm' : Array Value} (h : Sat w0 M0 F0 st tm w φ F) {st' : St} {src : Nm → Option Nm} {D : List Nm} {N : Nm → Option Nat} (hr : Re st st'.hp src D N) (slots : tm'.size = st'.n)
  (rep : ∀ t, Rep w (reF st.hp φ F D) (reEnv φ src N) (st'.tm t) (tm'.getD t Go.undef)) : Sat w0 M0 F0 st' tm' w (reEnv φ src N) (reF st.hp φ F D) := by
 have hM : ∀ n E' z b cap, st'.hp n = some (some E') → reEnv φ src N n = some (z, .at b cap) → ∃ m E, src n = some m ∧ st.hp m = some (some E) ∧ m ∉ D ∧ φ m = some (z, .at b cap) := fun n E' z b cap hE hφ => by
  rcases hr.live n E' hE with ⟨h1, _⟩ | ⟨m, E, h1, h2, h3, _⟩
  ·simp [reEnv, h1] at hφ
  ·refine ⟨m, E, h1, h2, h3, ?_⟩
   simpa [reEnv, hr.new n m h1, h1] using hφ
 refine ⟨h.os, h.tape, h.output, h.size, h.old, fun b hb => ?_, fun n e he => ?_, fun b hb => ?_, fun b hb hm => ?_, fun b hb => ?_, slots, rep, fun n n' E E' z z' b cap cap' h1 h2 h3 h4 => ?_, fun n E' hE => ?_, fun n hn => ?_⟩
 ·obtain ⟨n, E', z, cap, h1, h2⟩ := hb
  obtain ⟨m, E, _, g2, _, g4⟩ := hM n E' z b cap h1 h2
  exact h.mine b ⟨m, E, z, cap, g2, g4⟩
 ·obtain ⟨h1, h2⟩ := h.bas n e he
  obtain ⟨n1, n2⟩ := n
  simp only at h1
  subst h1
  have h3 := hr.base n2 (fun h4 => by rw [h.absent _ h4] at h2; cases h2)
  refine ⟨rfl, ?_⟩
  simp only [reEnv, hr.new _ _ h3, h3, Option.bind_some]
  exact h2
 ·rcases hb with hb | ⟨n, z, cap, E, hk, hE, hφ⟩
  ·exact h.fr b hb
  ·obtain ⟨E', hE', hm⟩ := hr.drop n hk
   obtain ⟨loc, g1, -, g3⟩ := h.obj n E' hE'
   rw [hφ] at g1
   obtain ⟨-, rfl⟩ : z = E'.z ∧ Loc.at b cap = loc := by simpa using g1
   exact .inr (g3 hm b cap rfl)
 ·obtain ⟨n, E', z, cap, h1, h2⟩ := hm
  obtain ⟨m, E, _, g2, g3, g4⟩ := hM n E' z b cap h1 h2
  rcases hb with hb | ⟨n', z', cap', E1, hk, hE1, hφ⟩
  ·exact h.dis b hb ⟨m, E, z, cap, g2, g4⟩
  ·have := h.inj m n' E E1 z z' b cap cap' g2 hE1 g4 hφ
   subst this
   exact g3 hk
 ·rcases hb with hb | ⟨n', z', cap', E1, hk, hE1, hφ⟩
  ·exact h.flt b hb
  ·exact h.lt ⟨n', E1, z', cap', hE1, hφ⟩
 ·obtain ⟨m, Em, g1, g2, _, g4⟩ := hM n E z b cap h1 h3
  obtain ⟨m', Em', k1, k2, _, k4⟩ := hM n' E' z' b cap' h2 h4
  have := h.inj m m' Em Em' z z' b cap cap' g2 k2 g4 k4
  subst this
  exact hr.inj n n' E E' m h1 h2 g1 k1
 ·rcases hr.live n E' hE with ⟨h1, h2⟩ | ⟨m, E, h1, h2, h3, e1, e2, e3, e4, e5, e6, e7⟩
  ·exact ⟨.nil, by simp [reEnv, h1], h2, fun _ _ _ h => by cases h⟩
  ·obtain ⟨loc, g1, g2, g3⟩ := h.obj m E h2
   refine ⟨loc, by rw [e2]; simpa [reEnv, hr.new n m h1, h1] using g1, ?_, fun hm b cap hl => g3 (e4 hm) b cap hl⟩
   cases loc with
   | nil =>
    have : E.rows = [] := g2
    exact List.eq_nil_of_length_eq_zero (by rw [this] at e5; simpa using e5)
   | «at» b cap =>
    obtain ⟨arr, fz, q1, qs, q2, q3, q4, q5, q6, q7⟩ := g2
    refine ⟨arr, fz, by rw [e1]; exact q1, by rw [e3]; exact qs, q2, by rw [e2]; exact q3, Nat.le_trans e5 q4, q5, e6, fun i j y hy => ?_⟩
    obtain ⟨x, hx, hc⟩ := e7 i j y hy
    obtain ⟨u, u1, u2, u3⟩ := q7 i j x hx
    exact ⟨u, by rw [e2]; exact u1, u2, cv_rep h hr.new hc u u3⟩
 ·obtain ⟨h1, h2⟩ := hr.dead n hn
  simp [reEnv, h1, h2]
def Ent (st st' : St) : Prop := ∀ (w0 : World) (M0 : Base) (F0 : Nat → Prop) (tm : Array Value) (w : World) (φ : Env) (F : Nat → Prop), Sat w0 M0 F0 st tm w φ F → ∃ φ' F', Sat w0 M0 F0 st' tm w φ' F'
theorem Ent.refl (st : St) : Ent st st := fun _ _ _ _ _ φ F h => ⟨φ, F, h⟩
theorem Ent.trans {a b c : St} (h : Ent a b) (k : Ent b c) : Ent a c := fun w0 M0 F0 tm w φ F hs => by
 obtain ⟨φ', F', h'⟩ := h w0 M0 F0 tm w φ F hs
 exact k w0 M0 F0 tm w φ' F' h'
theorem Ent.mk {st st' : St} {src : Nm → Option Nm} {D : List Nm} {N : Nm → Option Nat} (hn : st'.n = st.n) (hr : Re st st'.hp src D N) (hs : ∀ t, Cv st.hp src D N (st.tm t) (st'.tm t)) : Ent st st' :=
 fun _ _ _ _ _ _ _ h => ⟨_, _, h.re hr (by rw [hn]; exact h.slots) (fun t => cv_rep h hr.new (hs t) _ (h.rep t))⟩
end
end Go.Abs
