/- The abstract layer, part A9. -/
import Derived.Test.YtbkmnbpgpklojaaGreatDoorAbsA8
namespace Go.Abs
open Go
theorem Sat.turnF {w0 M0 F0 st tm w φ F} (h : Sat w0 M0 F0 st tm w φ F) {st' : St} {tm' : Array Value} {w' : World} {φ' : Env} {T : Nm → Prop} {F' : Nat → Prop}
  (ht : Turn w0 M0 st.hp w φ st'.hp w' φ' T) (hF : ∀ c, F c → F' c) (fr : ∀ b, F' b → F0 b ∨ w0.heap.size ≤ b) (dis : ∀ b, F' b → ¬ Mset st'.hp φ' b) (flt : ∀ b, F' b → b < w'.heap.size)
  (slots : tm'.size = st'.n) (rep : ∀ t, Rep w' F' φ' (st'.tm t) (tm'.getD t undef))
  (obj : ∀ n E, T n → st'.hp n = some (some E) → ∃ loc, φ' n = some (E.z, loc) ∧ Holds w' F' φ' E loc ∧ Fresh w0 E loc) : Sat w0 M0 F0 st' tm' w' φ' F' := by
 let stu : St := ⟨st'.n, fun _ => .undef, fun n => if st'.hp n = none then none else some none⟩
 -- all but the slots and the contents, by the turn with what was
 refine ⟨ht.os.trans h.os, ht.tape.trans h.tape, ht.output.trans h.output, Nat.le_trans h.size ht.size, fun b hb hM => ?_, fun b hb => ?_, fun n e he => ⟨(h.bas n e he).1, ht.env n e (h.bas n e he).2⟩, fr, dis, flt, slots, rep, fun n n' E E' z z' b cap cap' h1 h2 h3 h4 => ?_, fun n E hE => ?_, fun n hn => ?_⟩
 ·have hlt : b < w.heap.size := Nat.lt_of_lt_of_le hb h.size
  rw [ht.frz b hlt (fun hm => (h.mine b hm).elim hM (fun h1 => by omega)), h.old b hb hM]
 ·rcases ht.m hb with h1 | h1
  ·exact h.mine b h1
  ·exact .inr (Nat.le_trans h.size h1)
 ·by_cases hT : T n <;> by_cases hT' : T n'
  ·exact ht.tinj n n' E E' z z' b cap cap' hT hT' h1 h2 h3 h4
  ·exfalso
   obtain ⟨e1, e2⟩ := ht.same n' hT'
   rw [e1] at h2; rw [e2] at h4
   rcases ht.own n E z b cap hT h1 h3 with h5 | ⟨m, E'', z'', cap'', hm, h5, h6⟩
   ·have := h.lt ⟨n', E', z', cap', h2, h4⟩; omega
   ·have := h.inj m n' E'' E' z'' z' b cap'' cap' h5 h2 h6 h4; subst this; exact hT' hm
  ·exfalso
   obtain ⟨e1, e2⟩ := ht.same n hT
   rw [e1] at h1; rw [e2] at h3
   rcases ht.own n' E' z' b cap' hT' h2 h4 with h5 | ⟨m, E'', z'', cap'', hm, h5, h6⟩
   ·have := h.lt ⟨n, E, z, cap, h1, h3⟩; omega
   ·have := h.inj m n E'' E z'' z b cap'' cap h5 h1 h6 h3; subst this; exact hT hm
  ·obtain ⟨e1, e2⟩ := ht.same n hT
   obtain ⟨e3, e4⟩ := ht.same n' hT'
   rw [e1] at h1; rw [e2] at h3; rw [e3] at h2; rw [e4] at h4
   exact h.inj n n' E E' z z' b cap cap' h1 h2 h3 h4
 ·by_cases hT : T n
  ·exact obj n E hT hE
  ·obtain ⟨e1, e2⟩ := ht.same n hT
   rw [e1] at hE
   obtain ⟨loc, h3, h4, h5⟩ := h.obj n E hE
   refine ⟨loc, e2.trans h3, h4.mono (h.ext ht) hF ht.env (fun b cap hb => ?_), h5⟩
   subst hb
   exact ht.blk n E _ b cap hT hE h3
 ·by_cases hT : T n
  ·exact ht.abs n hT hn
  ·obtain ⟨e1, e2⟩ := ht.same n hT
   rw [e2]; exact h.absent n (e1 ▸ hn)
theorem addOwns_at (d : Nat) : ∀ (l : List (Nat × Entry)) (hp : Heap) (m : Nm), addOwns d l hp m = if m.1 = d then (match l.lookup m.2 with | some E => some (some E) | none => hp m) else hp m
 | [], hp, m => by simp [addOwns]
 | (p, E) :: l, hp, m => by
  obtain ⟨m1, m2⟩ := m
  have ih := addOwns_at d l hp (m1, m2)
  simp only [addOwns, List.foldr_cons, upd] at ih ⊢
  by_cases h1 : m1 = d
  ·subst h1
   by_cases h2 : m2 = p
   ·subst h2; simp
   ·have : (m2 == p) = false := by simpa using h2
    simp [h2, List.lookup_cons, this, ih]
  ·simp [h1, ih]
theorem lookup_mem {l : List (Nat × Entry)} {p : Nat} {E : Entry} (h : l.lookup p = some E) : (p, E) ∈ l := by
 induction l with
 | nil => simp at h
 | cons q l ih =>
  obtain ⟨p', E'⟩ := q
  simp only [List.lookup_cons] at h
  split at h
  ·rename_i hb
   have : p = p' := by simpa using hb
   subst this
   cases h; simp
  ·exact List.mem_cons_of_mem _ (ih h)
theorem setOuts_other : ∀ {ns : List Nm} {Es : List Entry} {hp : Heap} {m : Nm}, m ∉ ns → setOuts ns Es hp m = hp m
 | [], _, _, _, _ => by simp [setOuts]
 | n :: ns, [], _, _, _ => by simp [setOuts]
 | n :: ns, E :: Es, hp, m, h => by
  simp only [List.mem_cons, not_or] at h
  rw [setOuts, setOuts_other h.2]
  simp [upd, h.1]
theorem setOuts_at : ∀ {ns : List Nm} {Es : List Entry} {hp : Heap} {i : Nat} {n : Nm} {E : Entry}, ns.Nodup → ns[i]? = some n → Es[i]? = some E → setOuts ns Es hp n = some (some { E with mine := mineOf hp n })
 | [], _, _, i, _, _, _, h, _ => by simp at h
 | m :: ns, [], _, i, _, _, _, _, h => by simp at h
 | m :: ns, E' :: Es, hp, i, n, E, hnd, hn, hE => by
  have hnd' := List.nodup_cons.1 hnd
  rw [setOuts]
  cases i with
  | zero =>
   simp only [List.getElem?_cons_zero, Option.some.injEq] at hn hE
   subst hn; subst hE
   rw [setOuts_other hnd'.1]
   simp [upd]
  | succ i =>
   simp only [List.getElem?_cons_succ] at hn hE
   have hne : n ≠ m := fun e => hnd'.1 (e ▸ List.mem_of_getElem? hn)
   rw [setOuts_at hnd'.2 hn hE]
   simp [mineOf, upd, hne]
theorem setOuts_ne : ∀ {ns : List Nm} {Es : List Entry} {hp : Heap} {m : Nm}, hp m ≠ none → setOuts ns Es hp m ≠ none
 | [], _, _, _, h => by simpa [setOuts] using h
 | n :: ns, [], _, _, h => by simpa [setOuts] using h
 | n :: ns, E :: Es, hp, m, h => by
  rw [setOuts]
  apply setOuts_ne
  unfold upd
  split
  ·simp
  ·exact h
def okCellP (p : V → Prop) : V → Prop
 | .own _ _ _ | .obox _ _ => True
 | x => p x
def ok1P (p : V → Prop) : V → Prop
 | .agg xs => ∀ x, x ∈ xs → okCellP p x
 | x => okCellP p x
def okResP (p : V → Prop) : V → Prop
 | .tup xs => ∀ x, x ∈ xs → ok1P p x
 | x => ok1P p x
section
variable {w' : World} {F' F'' : Nat → Prop} {φ' φ'' : Env} {d : Nat} {p : V → Prop}
theorem mat0_rep (hp : ∀ x, p x → ∀ u, Rep w' F' φ' x u → Rep w' F'' φ'' x u) {k : Nat} {x : V} (hx : okCellP p x) (hφ : ∀ q E, (q, E) ∈ x.own0 k → φ'' (d, q) = φ' (2000, q)) {u : Value} (h : Rep w' F' φ' (x.mat0 2000 k) u) : Rep w' F'' φ'' (x.mat0 d k) u := by
 cases x with
 | own e z rows =>
  have e1 := hφ k _ (by simp only [V.own0, List.mem_singleton]; rfl)
  simp only [V.mat0] at h ⊢
  generalize rows.length = q at h
  cases h with
  | refNil h1 => exact .refNil (e1.trans h1)
  | ref h1 hl hm ho => exact .ref (e1.trans h1) hl hm ho
 | obox e row =>
  have e1 := hφ k _ (by simp only [V.own0, List.mem_singleton]; rfl)
  simp only [V.mat0] at h ⊢
  cases h with
  | ptr h1 => exact .ptr (e1.trans h1)
 | _ => exact hp _ hx u h
theorem matL_length (d : Nat) : ∀ (k : Nat) (xs : List V), (matL d k xs).length = xs.length
 | _, [] => rfl
 | k, x :: xs => by simp [matL, matL_length d (k + 1) xs]
theorem matL_at (d : Nat) : ∀ (k : Nat) (xs : List V) (i : Nat), (matL d k xs)[i]? = xs[i]?.map fun x => x.mat0 d (k + i)
 | _, [], i => by simp [matL]
 | k, x :: xs, 0 => by simp [matL]
 | k, x :: xs, i + 1 => by simp [matL, matL_at d (k + 1) xs i, Nat.add_assoc, Nat.add_comm 1 i]
theorem matT_length (d : Nat) : ∀ (k : Nat) (xs : List V), (matT d k xs).length = xs.length
 | _, [] => rfl
 | k, x :: xs => by simp [matT, matT_length d (k + 1) xs]
theorem matT_at (d : Nat) : ∀ (k : Nat) (xs : List V) (i : Nat), (matT d k xs)[i]? = xs[i]?.map fun x => x.mat1 d (100 * (k + i + 1))
 | _, [], i => by simp [matT]
 | k, x :: xs, 0 => by simp [matT]
 | k, x :: xs, i + 1 => by simp [matT, matT_at d (k + 1) xs i, Nat.add_assoc, Nat.add_comm 1 i]
theorem ownL_mem : ∀ {k : Nat} {xs : List V} {i : Nat} {x : V} {q : Nat × Entry}, xs[i]? = some x → q ∈ x.own0 (k + i) → q ∈ ownL k xs
 | _, [], i, _, _, h, _ => by simp at h
 | k, y :: xs, 0, x, q, h, hq => by simp only [List.getElem?_cons_zero, Option.some.injEq] at h; subst h; simp only [ownL, List.mem_append]; exact .inl hq
 | k, y :: xs, i + 1, x, q, h, hq => by
  simp only [ownL, List.mem_append]
  exact .inr (ownL_mem (k := k + 1) (by simpa using h) (by rwa [Nat.add_assoc, Nat.add_comm 1 i]))
theorem ownT_mem : ∀ {k : Nat} {xs : List V} {i : Nat} {x : V} {q : Nat × Entry}, xs[i]? = some x → q ∈ x.own1 (100 * (k + i + 1)) → q ∈ ownT k xs
 | _, [], i, _, _, h, _ => by simp at h
 | k, y :: xs, 0, x, q, h, hq => by simp only [List.getElem?_cons_zero, Option.some.injEq] at h; subst h; simp only [ownT, List.mem_append]; exact .inl (by simpa using hq)
 | k, y :: xs, i + 1, x, q, h, hq => by
  simp only [ownT, List.mem_append]
  exact .inr (ownT_mem (k := k + 1) (by simpa using h) (by rwa [Nat.add_assoc k 1 i, Nat.add_comm 1 i]))
theorem not_agg {x : V} (h : ∀ xs, x ≠ .agg xs) (p : V → Prop) (d k : Nat) : x.mat1 d k = x.mat0 d k ∧ x.own1 k = x.own0 k ∧ ok1P p x = okCellP p x := by
 cases x <;> first | exact ⟨rfl, rfl, rfl⟩ | exact absurd rfl (h _)
theorem not_tup {x : V} (h : ∀ xs, x ≠ .tup xs) (p : V → Prop) (d : Nat) : x.mat d = x.mat1 d 0 ∧ x.owns = x.own1 0 ∧ okResP p x = ok1P p x := by
 cases x <;> first | exact ⟨rfl, rfl, rfl⟩ | exact absurd rfl (h _)
theorem mat1_rep (hp : ∀ x, p x → ∀ u, Rep w' F' φ' x u → Rep w' F'' φ'' x u) {k : Nat} {x : V} (hx : ok1P p x) (hφ : ∀ q E, (q, E) ∈ x.own1 k → φ'' (d, q) = φ' (2000, q)) {u : Value} (h : Rep w' F' φ' (x.mat1 2000 k) u) : Rep w' F'' φ'' (x.mat1 d k) u := by
 by_cases hag : ∃ xs, x = .agg xs
 ·obtain ⟨xs, rfl⟩ := hag
  simp only [V.mat1] at h ⊢
  obtain ⟨vs, rfl, hl, hr, ho⟩ := h.agg_inv
  refine .agg (by rw [matL_length] at hl ⊢; exact hl) (fun i y v hy hv => ?_) ho
  rw [matL_at] at hy
  cases hxi : xs[i]? with
  | none => simp [hxi] at hy
  | some x =>
   simp only [hxi, Option.map_some, Option.some.injEq] at hy
   subst hy
   refine mat0_rep hp (hx x (List.mem_of_getElem? hxi)) (fun q E hq => hφ q E (ownL_mem hxi hq)) (hr i _ v (by rw [matL_at, hxi]; rfl) hv)
 ·have hn : ∀ xs, x ≠ .agg xs := fun xs e => hag ⟨xs, e⟩
  obtain ⟨e1, e2, e3⟩ := not_agg hn p d k
  obtain ⟨e4, -, -⟩ := not_agg hn p 2000 k
  rw [e1]; rw [e2] at hφ; rw [e3] at hx; rw [e4] at h
  exact mat0_rep hp hx hφ h
theorem mat_rep (hp : ∀ x, p x → ∀ u, Rep w' F' φ' x u → Rep w' F'' φ'' x u) {r : V} (hx : okResP p r) (hφ : ∀ q E, (q, E) ∈ r.owns → φ'' (d, q) = φ' (2000, q)) {u : Value} (h : Rep w' F' φ' (r.mat 2000) u) : Rep w' F'' φ'' (r.mat d) u := by
 by_cases hag : ∃ xs, r = .tup xs
 ·obtain ⟨xs, rfl⟩ := hag
  simp only [V.mat] at h ⊢
  obtain ⟨vs, rfl, hl, hr⟩ := h.tup_inv
  refine .tup (by rw [matT_length] at hl ⊢; exact hl) (fun i y v hy hv => ?_)
  rw [matT_at] at hy
  cases hxi : xs[i]? with
  | none => simp [hxi] at hy
  | some x =>
   simp only [hxi, Option.map_some, Option.some.injEq] at hy
   subst hy
   refine mat1_rep hp (hx x (List.mem_of_getElem? hxi)) (fun q E hq => hφ q E (ownT_mem hxi hq)) (hr i _ v (by rw [matT_at, hxi]; rfl) hv)
 ·have hn : ∀ xs, r ≠ .tup xs := fun xs e => hag ⟨xs, e⟩
  obtain ⟨e1, e2, e3⟩ := not_tup hn p d
  obtain ⟨e4, -, -⟩ := not_tup hn p 2000
  rw [e1]; rw [e2] at hφ; rw [e3] at hx; rw [e4] at h
  exact mat1_rep hp hx hφ h
end
section
variable {P : Program} {w0 : World} {M0 : Base} {F0 : Nat → Prop} {st : St} {w : World} {φ : Env} {F : Nat → Prop}
def retEnv (φ φ' : Env) (d : Nat) (l : List (Nat × Entry)) : Env := fun m => if m.1 = d ∧ (l.lookup m.2).isSome = true then φ' (2000, m.2) else φ m
def retHp (hp : Heap) (ns ks : List Nm) (outs : List Entry) (d : Nat) (r : V) : Heap := addOwns d r.owns (setOuts ns outs (killAll ks hp))
theorem mem_lookup {l : List (Nat × Entry)} {p : Nat} {E : Entry} (h : (p, E) ∈ l) : ∃ E', l.lookup p = some E' := by
 induction l with
 | nil => cases h
 | cons q l ih =>
  obtain ⟨p', E'⟩ := q
  simp only [List.lookup_cons]
  split
  ·exact ⟨_, rfl⟩
  ·rename_i hb
   have hne : ¬ p = p' := by simpa using hb
   rcases List.mem_cons.1 h with h | h
   ·cases h; exact absurd rfl hne
   ·exact ih h
theorem ret_sat {tm : Array Value} (h : Sat w0 M0 F0 st tm w φ F) {ns kb ks : List Nm} {ins outs : List Entry} {r : V} {d : Nat} {v : Value} {w' : World} {φ' : Env} {F' F'' : Nat → Prop} {p : V → Prop}
    (hlen : ins.length = ns.length) (holen : outs.length = ins.length) (hnd : ns.Nodup) (hin : ∀ (i : Nat) n, ns[i]? = some n → ∃ E', st.hp n = some (some E') ∧ ins[i]? = some { E' with mine := false })
    (hks : ∀ n, n ∈ ks → n ∉ ns ∧ ∃ E, st.hp n = some (some E)) (hab : ∀ q E, (q, E) ∈ r.owns → st.hp (d, q) = none)
    (hc : Sat w ⟨Mset (argHp ins) (calleeEnv φ ns), calleeEnv φ ns⟩ (calleeF st.hp φ F kb) (resSt r outs) #[v] w' φ' F') (hφi : ∀ i, i < ins.length → φ' (1000, i) = calleeEnv φ ns (1000, i))
    (hFF : ∀ c, F c → F'' c) (hfr : ∀ b, F'' b → F0 b ∨ w0.heap.size ≤ b) (hfd : ∀ b, F'' b → F b ∨ F' b) (hfk : ∀ b n E z cap, F'' b → st.hp n = some (some E) → φ n = some (z, .at b cap) → n ∈ ks)
    (hp : ∀ x, p x → ∀ u, Rep w' F' φ' x u → Rep w' F'' (retEnv φ φ' d r.owns) x u) (hr : okResP p r) (hro : ∀ q E, (q, E) ∈ r.owns → ∀ i j x, cellAt E.rows i j = some x → p x) (hou : ∀ E, E ∈ outs → ∀ i j x, cellAt E.rows i j = some x → p x) :
    Sat w0 M0 F0 { st with hp := retHp st.hp ns ks outs d r } tm w' (retEnv φ φ' d r.owns) F'' ∧ Rep w' F'' (retEnv φ φ' d r.owns) (r.mat d) v := by
  have hlive : ∀ n, n ∈ ns → ∃ E, st.hp n = some (some E) := fun n hn => by
    obtain ⟨i, hi, rfl⟩ := List.getElem_of_mem hn
    obtain ⟨E, hE, _⟩ := hin i _ (List.getElem?_eq_getElem hi)
    exact ⟨_, hE⟩
  have hownd : ∀ m : Nm, (m.1 = d ∧ (r.owns.lookup m.2).isSome = true) → st.hp m = none := fun m hm => by
    obtain ⟨m1, m2⟩ := m
    obtain ⟨rfl, h2⟩ := hm
    obtain ⟨E, hE⟩ := Option.isSome_iff_exists.1 h2
    exact hab m2 E (lookup_mem hE)
  have hMc : ∀ b, Mset (argHp ins) (calleeEnv φ ns) b → ∃ i n z cap, ns[i]? = some n ∧ φ n = some (z, .at b cap) := fun b hb => by
    obtain ⟨m, E, z, cap, h1, h2⟩ := hb
    obtain ⟨m1, m2⟩ := m
    unfold argHp at h1
    split at h1
    · rename_i e
      simp only at e
      subst e
      cases hi : ns[m2]? with
      | none => simp [calleeEnv, hi] at h2
      | some n => exact ⟨m2, n, z, cap, hi, by simpa [calleeEnv, hi] using h2⟩
    · cases h1
  have hMM : ∀ b, Mset (argHp ins) (calleeEnv φ ns) b → Mset st.hp φ b := fun b hb => by
    obtain ⟨i, n, z, cap, hn, hφ⟩ := hMc b hb
    obtain ⟨E, hE⟩ := hlive n (List.mem_of_getElem? hn)
    exact ⟨n, E, z, cap, hE, hφ⟩
  -- the names of what is handed back, in the callee's state
  have hres : ∀ q E, r.owns.lookup q = some E → resHp outs r (2000, q) = some (some E) := fun q E hE => by
    unfold resHp
    rw [addOwns_at]
    simp [hE]
  have hresA : ∀ (i : Nat) E, outs[i]? = some E → resHp outs r (1000, i) = some (some E) := fun i E hE => by
    unfold resHp
    rw [addOwns_at]
    simp [argHp, hE]
  have hat : ∀ m, retHp st.hp ns ks outs d r m = if m.1 = d ∧ (r.owns.lookup m.2).isSome = true then (r.owns.lookup m.2).map some else setOuts ns outs (killAll ks st.hp) m := fun m => by
    unfold retHp
    rw [addOwns_at]
    by_cases h1 : m.1 = d
    · cases h2 : r.owns.lookup m.2 <;> simp [h1]
    · simp [h1]
  have hnsd : ∀ n, n ∈ ns → ¬ (n.1 = d ∧ (r.owns.lookup n.2).isSome = true) := fun n hn hh => by
    obtain ⟨E, hE⟩ := hlive n hn
    rw [hownd n hh] at hE; cases hE
  have hkill : ∀ n, n ∈ ns → killAll ks st.hp n = st.hp n := fun n hn => by
    unfold killAll
    rw [if_neg (fun hk => (hks n hk).1 hn)]
  -- what lives behind the call
  have hcase : ∀ m E, retHp st.hp ns ks outs d r m = some (some E) →
      (m.1 = d ∧ r.owns.lookup m.2 = some E) ∨ (∃ (i : Nat) (E0 E' : Entry), ns[i]? = some m ∧ outs[i]? = some E0 ∧ E = { E0 with mine := E'.mine } ∧ st.hp m = some (some E') ∧ ¬ (m.1 = d ∧ (r.owns.lookup m.2).isSome = true)) ∨
      (m ∉ ns ∧ m ∉ ks ∧ st.hp m = some (some E) ∧ ¬ (m.1 = d ∧ (r.owns.lookup m.2).isSome = true)) := fun m E hE => by
    rw [hat] at hE
    split at hE
    · rename_i hh
      obtain ⟨E', hE'⟩ := Option.isSome_iff_exists.1 hh.2
      rw [hE'] at hE
      simp only [Option.map_some, Option.some.injEq] at hE
      exact .inl ⟨hh.1, hE ▸ hE'⟩
    · rename_i hh
      by_cases hm : m ∈ ns
      · obtain ⟨i, hi, e⟩ := List.getElem_of_mem hm
        have hni : ns[i]? = some m := by rw [List.getElem?_eq_getElem hi, e]
        have hoi : i < outs.length := by omega
        obtain ⟨E', hE', _⟩ := hin i m hni
        rw [setOuts_at hnd hni (List.getElem?_eq_getElem hoi)] at hE
        simp only [Option.some.injEq] at hE
        refine .inr (.inl ⟨i, _, E', hni, List.getElem?_eq_getElem hoi, ?_, hE', hh⟩)
        rw [← hE]
        simp [mineOf, hkill m hm, hE']
      · rw [setOuts_other hm] at hE
        unfold killAll at hE
        split at hE
        · cases hE
        · rename_i hk
          exact .inr (.inr ⟨hm, hk, hE, hh⟩)
  have hφo : ∀ m : Nm, ¬ (m.1 = d ∧ (r.owns.lookup m.2).isSome = true) → retEnv φ φ' d r.owns m = φ m := fun m hm => by unfold retEnv; rw [if_neg hm]
  have hφd : ∀ (m : Nm) E, m.1 = d → r.owns.lookup m.2 = some E → retEnv φ φ' d r.owns m = φ' (2000, m.2) := fun m E h1 h2 => by unfold retEnv; rw [if_pos ⟨h1, by simp [h2]⟩]
  have hφn : ∀ (i : Nat) n, ns[i]? = some n → φ' (1000, i) = φ n := fun i n hn => by
    rw [hφi i (by rw [hlen]; exact (List.getElem?_eq_some_iff.1 hn).1)]
    simp [calleeEnv, hn]
  have ht : Turn w0 M0 st.hp w φ (retHp st.hp ns ks outs d r) w' (retEnv φ φ' d r.owns) (fun m => m ∈ ns ∨ m ∈ ks ∨ (m.1 = d ∧ (r.owns.lookup m.2).isSome = true)) :=
    { os := hc.os, tape := hc.tape, output := hc.output, size := hc.size
      frz := fun c hlt hM => hc.old c hlt (fun hm => hM (hMM c hm))
      same := fun m hm => by
        simp only [not_or] at hm
        refine ⟨?_, hφo m hm.2.2⟩
        rw [hat, if_neg hm.2.2, setOuts_other hm.1]
        unfold killAll
        rw [if_neg hm.2.1]
      env := fun m e he => by
        by_cases hh : m.1 = d ∧ (r.owns.lookup m.2).isSome = true
        · rw [h.absent m (hownd m hh)] at he; cases he
        · rw [hφo m hh]; exact he
      blk := fun m E z b cap hm hE hφm => by
        simp only [not_or] at hm
        refine hc.old b (h.lt ⟨m, E, z, cap, hE, hφm⟩) (fun hb => ?_)
        obtain ⟨i, n, z', cap', hn, hφn'⟩ := hMc b hb
        obtain ⟨En, hEn⟩ := hlive n (List.mem_of_getElem? hn)
        have := h.inj m n E En z z' b cap cap' hE hEn hφm hφn'
        subst this
        exact hm.1 (List.mem_of_getElem? hn)
      own := fun m E z b cap hm hE hφm => by
        rcases hcase m E hE with ⟨h1, h2⟩ | ⟨i, E0, E', hni, hoi, _, hE', hh⟩ | ⟨h1, h2, h3, hh⟩
        · rw [hφd m E h1 h2] at hφm
          rcases hc.mine b ⟨(2000, m.2), E, z, cap, hres _ _ h2, hφm⟩ with hb | hb
          · exfalso
            obtain ⟨i, n, z', cap', hn, hφn'⟩ := hMc b hb
            have hoi : i < outs.length := by have := (List.getElem?_eq_some_iff.1 hn).1; omega
            have := hc.inj (2000, m.2) (1000, i) E _ z z' b cap cap' (hres _ _ h2) (hresA i _ (List.getElem?_eq_getElem hoi)) hφm ((hφn i n hn).trans hφn')
            simp at this
          · exact .inl hb
        · rw [hφo m hh] at hφm
          exact .inr ⟨m, E', z, cap, .inl (List.mem_of_getElem? hni), hE', hφm⟩
        · rcases hm with hm | hm | hm
          · exact absurd hm h1
          · exact absurd hm h2
          · exact absurd hm hh
      tinj := fun m m' E E1 z z' b cap cap' hm hm' hE hE1 hφm hφm' => by
        have key : ∀ {q Eq zq capq}, (q ∈ ns ∨ q ∈ ks ∨ (q.1 = d ∧ (r.owns.lookup q.2).isSome = true)) → retHp st.hp ns ks outs d r q = some (some Eq) → retEnv φ φ' d r.owns q = some (zq, .at b capq) →
            ∃ q' Eq', resHp outs r q' = some (some Eq') ∧ φ' q' = some (zq, .at b capq) ∧ ((q.1 = d ∧ q' = (2000, q.2)) ∨ ∃ i, ns[i]? = some q ∧ q' = (1000, i)) := fun {q Eq zq capq} hq hEq hφq => by
          rcases hcase q Eq hEq with ⟨h1, h2⟩ | ⟨i, E0, E', hni, hoi, _, hE', hh⟩ | ⟨h1, h2, h3, hh⟩
          · rw [hφd q Eq h1 h2] at hφq
            exact ⟨_, _, hres _ _ h2, hφq, .inl ⟨h1, rfl⟩⟩
          · rw [hφo q hh] at hφq
            exact ⟨_, _, hresA i _ hoi, (hφn i q hni).trans hφq, .inr ⟨i, hni, rfl⟩⟩
          · rcases hq with hq | hq | hq
            · exact absurd hq h1
            · exact absurd hq h2
            · exact absurd hq hh
        obtain ⟨q, Eq, a1, a2, a3⟩ := key hm hE hφm
        obtain ⟨q', Eq', b1, b2, b3⟩ := key hm' hE1 hφm'
        have := hc.inj q q' Eq Eq' z z' b cap cap' a1 b1 a2 b2
        subst this
        rcases a3 with ⟨c1, rfl⟩ | ⟨i, c1, rfl⟩ <;> rcases b3 with ⟨c2, e⟩ | ⟨i', c2, e⟩
        · simp at e; exact Prod.ext (c1.trans c2.symm) e
        · simp at e
        · simp at e
        · simp at e; subst e; rw [c1] at c2; exact Option.some.inj c2
      abs := fun m hm hE => by
        exfalso
        rw [hat] at hE
        split at hE
        · rename_i hh
          obtain ⟨E', hE'⟩ := Option.isSome_iff_exists.1 hh.2
          simp [hE'] at hE
        · rename_i hh
          rcases hm with hm | hm | hm
          · obtain ⟨E, hE'⟩ := hlive m hm
            exact setOuts_ne (by rw [hkill m hm, hE']; simp) hE
          · refine setOuts_ne ?_ hE
            unfold killAll
            rw [if_pos hm]; simp
          · exact hh hm }
  have hdis : ∀ b, F'' b → ¬ Mset (retHp st.hp ns ks outs d r) (retEnv φ φ' d r.owns) b := fun b hb hm => by
    obtain ⟨m, E, z, cap, hE, hφm⟩ := hm
    rcases hcase m E hE with ⟨h1, h2⟩ | ⟨i, E0, E', hni, hoi, _, hE', hh⟩ | ⟨h1, h2, h3, hh⟩
    · rw [hφd m E h1 h2] at hφm
      have hM' : Mset (resHp outs r) φ' b := ⟨(2000, m.2), E, z, cap, hres _ _ h2, hφm⟩
      rcases hfd b hb with hb' | hb'
      · rcases hc.mine b hM' with hq | hq
        · exact h.dis b hb' (hMM b hq)
        · have := h.flt b hb'; omega
      · exact hc.dis b hb' hM'
    · rw [hφo m hh] at hφm
      exact (hks m (hfk b m E' z cap hb hE' hφm)).1 (List.mem_of_getElem? hni)
    · rw [hφo m hh] at hφm
      exact h2 (hfk b m E z cap hb h3 hφm)
  have hflt : ∀ b, F'' b → b < w'.heap.size := fun b hb => by
    rcases hfd b hb with hb' | hb'
    · exact Nat.lt_of_lt_of_le (h.flt b hb') hc.size
    · exact hc.flt b hb'
  refine ⟨h.turnF ht hFF hfr hdis hflt h.slots (fun t => (h.rep t).mono (h.ext ht) hFF ht.env) (fun m E hm hE => ?_), ?_⟩
  · rcases hcase m E hE with ⟨h1, h2⟩ | ⟨i, E0, E', hni, hoi, hEe, hE', hh⟩ | ⟨h1, h2, h3, hh⟩
    · obtain ⟨loc, g1, g2, g3⟩ := hc.obj (2000, m.2) E (hres _ _ h2)
      refine ⟨loc, (hφd m E h1 h2).trans g1, ?_, fun hmn b cap hl => Nat.le_trans h.size (g3 hmn b cap hl)⟩
      cases loc with
      | nil => exact g2
      | «at» b cap =>
        obtain ⟨arr, fz, q1, qs, q2, q3, q4, q5, q6, q7⟩ := g2
        refine ⟨arr, fz, q1, qs, q2, q3, q4, q5, q6, fun i j x hx => ?_⟩
        obtain ⟨u, u1, u2, u3⟩ := q7 i j x hx
        exact ⟨u, u1, u2, hp x (hro m.2 E (lookup_mem h2) i j x hx) u u3⟩
    · obtain ⟨loc, g1, g2, -⟩ := hc.obj (1000, i) E0 (hresA i _ hoi)
      rw [hφn i m hni] at g1
      obtain ⟨loc', k1, -, k3⟩ := h.obj m E' hE'
      subst hEe
      refine ⟨loc, (hφo m hh).trans g1, ?_, fun hmn b cap hl => ?_⟩
      · cases loc with
        | nil => exact g2
        | «at» b cap =>
          obtain ⟨arr, fz, q1, qs, q2, q3, q4, q5, q6, q7⟩ := g2
          refine ⟨arr, fz, q1, qs, q2, q3, q4, q5, q6, fun i j x hx => ?_⟩
          obtain ⟨u, u1, u2, u3⟩ := q7 i j x hx
          exact ⟨u, u1, u2, hp x (hou E0 (List.mem_of_getElem? hoi) i j x hx) u u3⟩
      · rw [g1] at k1
        obtain ⟨-, rfl⟩ : E0.z = E'.z ∧ loc = loc' := by simpa using k1
        exact k3 hmn b cap hl
    · rcases hm with hm | hm | hm
      · exact absurd hm h1
      · exact absurd hm h2
      · exact absurd hm hh
  · have := hc.rep 0
    simp only [resSt, if_true] at this
    refine mat_rep hp hr (fun q E hq => ?_) (by simpa using this)
    obtain ⟨E', hE'⟩ := mem_lookup hq
    exact hφd (d, q) E' rfl hE'
end
end Go.Abs
