/- The abstract layer, part A10b. -/
import Derived.Test.YtbkmnbpgpklojaaGreatDoorAbsA10
namespace Go.Abs
open Go
structure InsRel (hp : Heap) (ns kb : List Nm) (E' E : Entry) : Prop where
 e : E.e = E'.e
 z : E.z = E'.z
 str : E.str = E'.str
 mine : E.mine = false
 len : E.rows.length = E'.rows.length
 rz : ∀ r, r ∈ E.rows → r.length = E.z
 cell : ∀ i j y, cellAt E.rows i j = some y → ∃ x, cellAt E'.rows i j = some x ∧ ArgRel hp ns kb x y
inductive RetRel (d : Nat) (ns : List Nm) (own : List (Nat × Entry)) (p : V → Prop) : V → V → Prop where
 | keep {x : V} (h : p x) : RetRel d ns own p x x
 | own {q off len : Nat} (h : (own.lookup q).isSome = true) : RetRel d ns own p (.ref (2000, q) off len) (.ref (d, q) off len)
 | inn {i off len : Nat} {n : Nm} (h : ns[i]? = some n) : RetRel d ns own p (.ref (1000, i) off len) (.ref n off len)
 | agg {xs ys : List V} (hl : xs.length = ys.length) (h : ∀ (i : Nat) x y, xs[i]? = some x → ys[i]? = some y → RetRel d ns own p x y) : RetRel d ns own p (.agg xs) (.agg ys)
 | tup {xs ys : List V} (hl : xs.length = ys.length) (h : ∀ (i : Nat) x y, xs[i]? = some x → ys[i]? = some y → RetRel d ns own p x y) : RetRel d ns own p (.tup xs) (.tup ys)
structure OutRel (d : Nat) (ns : List Nm) (own : List (Nat × Entry)) (p : V → Prop) (E E' : Entry) : Prop where
 e : E'.e = E.e
 z : E'.z = E.z
 str : E'.str = E.str
 len : E'.rows.length = E.rows.length
 rz : ∀ r, r ∈ E'.rows → r.length = E'.z
 cell : ∀ i j y, cellAt E'.rows i j = some y → ∃ x, cellAt E.rows i j = some x ∧ RetRel d ns own p x y
theorem outHolds {w' : World} {F' F'' : Nat → Prop} {φ' φ'' : Env} {d : Nat} {ns : List Nm} {own : List (Nat × Entry)} {p : V → Prop} {E E' : Entry} {mi : Bool} {loc : Loc} (h : OutRel d ns own p E E') (g : Holds w' F' φ' E loc)
  (hk : ∀ {x y : V}, RetRel d ns own p x y → ∀ u, Rep w' F' φ' x u → Rep w' F'' φ'' y u) : Holds w' F'' φ'' { E' with mine := mi } loc := by
 cases loc with
 | nil =>
  have : E.rows = [] := g
  exact List.eq_nil_of_length_eq_zero (by show E'.rows.length = 0; rw [h.len, this]; rfl)
 | «at» b cap =>
  obtain ⟨arr, fz, q1, qs, q2, q3, q4, q5, q6, q7⟩ := g
  refine ⟨arr, fz, by show w'.heap[b]? = some (Obj.cells arr E'.e fz); rw [h.e]; exact q1, fun hs => qs (by rw [← h.str]; exact hs), q2, by show arr.size = cap * E'.z; rw [h.z]; exact q3, by show E'.rows.length ≤ cap; rw [h.len]; exact q4, q5, h.rz, fun i j y hy => ?_⟩
  obtain ⟨x, hx, hxy⟩ := h.cell i j y hy
  obtain ⟨u, u1, u2, u3⟩ := q7 i j x hx
  exact ⟨u, by show arr[i * E'.z + j]? = some u; rw [h.z]; exact u1, u2, hk hxy u u3⟩
theorem retRel_rep {w' : World} {F' F'' : Nat → Prop} {φ' φ'' : Env} {d : Nat} {ns : List Nm} {own : List (Nat × Entry)} {p : V → Prop} (hp : ∀ x, p x → ∀ u, Rep w' F' φ' x u → Rep w' F'' φ'' x u)
  (ho : ∀ q, (own.lookup q).isSome = true → φ'' (d, q) = φ' (2000, q)) (hi : ∀ (i : Nat) n, ns[i]? = some n → φ'' n = φ' (1000, i)) {x y : V} (h : RetRel d ns own p x y) : ∀ u, Rep w' F' φ' x u → Rep w' F'' φ'' y u := by
 induction h with
 | keep h => exact hp _ h
 | @own q off len h =>
  intro u hu
  have e := ho q h
  cases hu with
  | refNil h1 => exact .refNil (e.trans h1)
  | ref h1 hl hm hoff => exact .ref (e.trans h1) hl hm hoff
 | @inn i off len n h =>
  intro u hu
  have e := hi i n h
  cases hu with
  | refNil h1 => exact .refNil (e.trans h1)
  | ref h1 hl hm hoff => exact .ref (e.trans h1) hl hm hoff
 | @agg xs ys hl h ih =>
  intro u hu
  obtain ⟨vs, rfl, h1, h2, h3⟩ := hu.agg_inv
  refine .agg (by omega) (fun i y v hy hv => ?_) h3
  have hlt : i < xs.length := by rw [hl]; exact (List.getElem?_eq_some_iff.1 hy).1
  exact ih i _ y (List.getElem?_eq_getElem hlt) hy v (h2 i _ v (List.getElem?_eq_getElem hlt) hv)
 | @tup xs ys hl h ih =>
  intro u hu
  obtain ⟨vs, rfl, h1, h2⟩ := hu.tup_inv
  refine .tup (by omega) (fun i y v hy hv => ?_)
  have hlt : i < xs.length := by rw [hl]; exact (List.getElem?_eq_some_iff.1 hy).1
  exact ih i _ y (List.getElem?_eq_getElem hlt) hy v (h2 i _ v (List.getElem?_eq_getElem hlt) hv)
section
variable {P : Program} {w0 : World} {M0 : Base} {F0 : Nat → Prop} {st : St} {w : World} {φ : Env} {F : Nat → Prop}
theorem callee_satG {tm : Array Value} (h : Sat w0 M0 F0 st tm w φ F) {ns kb : List Nm} {ins : List Entry} {args : List V} {xs : List V} {argv : Array Value}
  (hlen : ins.length = ns.length) (hnd : ns.Nodup) (hin : ∀ (i : Nat) n, ns[i]? = some n → ∃ E' E, st.hp n = some (some E') ∧ ins[i]? = some E ∧ InsRel st.hp ns kb E' E) (hkb : ∀ n, n ∈ kb → n ∉ ns)
  (hxl : xs.length = args.length) (harg : ∀ (i : Nat) x y, xs[i]? = some x → args[i]? = some y → ArgRel st.hp ns kb x y)
  (hvl : argv.size = args.length) (hv : ∀ (i : Nat) x v, xs[i]? = some x → argv[i]? = some v → Rep w F φ x v) :
  Sat w ⟨Mset (argHp ins) (calleeEnv φ ns), calleeEnv φ ns⟩ (calleeF st.hp φ F kb) (argSt args ins) argv w (calleeEnv φ ns) (calleeF st.hp φ F kb) := by
 have hget : ∀ m E, argHp ins m = some (some E) → ∃ i n, m = (1000, i) ∧ ns[i]? = some n ∧ ins[i]? = some E := fun m E hm => by
  obtain ⟨m1, m2⟩ := m
  unfold argHp at hm
  split at hm
  ·rename_i h1
   simp only at h1
   subst h1
   cases hi : ins[m2]? with
   | none => simp [hi] at hm
   | some E' =>
    simp only [hi, Option.map_some, Option.some.injEq] at hm
    subst hm
    have hlt : m2 < ns.length := by rw [← hlen]; exact (List.getElem?_eq_some_iff.1 hi).1
    exact ⟨m2, ns[m2], rfl, List.getElem?_eq_getElem hlt, hi⟩
  ·cases hm
 have hlive : ∀ n, n ∈ ns → ∃ E, st.hp n = some (some E) := fun n hn => by
  obtain ⟨i, hi, rfl⟩ := List.getElem_of_mem hn
  obtain ⟨E, _, hE, _⟩ := hin i _ (List.getElem?_eq_getElem hi)
  exact ⟨_, hE⟩
 have hM : ∀ b, Mset (argHp ins) (calleeEnv φ ns) b → ∃ n z cap, n ∈ ns ∧ φ n = some (z, .at b cap) := fun b hb => by
  obtain ⟨m, E, z, cap, h1, h2⟩ := hb
  obtain ⟨i, n, rfl, hn, _⟩ := hget m E h1
  exact ⟨n, z, cap, List.mem_of_getElem? hn, by simpa [calleeEnv, hn] using h2⟩
 refine ⟨rfl, rfl, rfl, Nat.le_refl _, fun _ _ _ => rfl, fun b hb => .inl hb, fun n e he => ⟨?_, he⟩, fun b hb => .inl hb, fun b hb hm => ?_, fun b hb => ?_, hvl, fun t => ?_, fun n n' E E' z z' b cap cap' h1 h2 h3 h4 => ?_, fun n E hE => ?_, fun n hn => ?_⟩
 ·have he' : calleeEnv φ ns n = some e := he
  unfold calleeEnv at he'
  split at he'
  ·assumption
  ·cases he'
 ·obtain ⟨n, z, cap, hn, hφ⟩ := hM b hm
  obtain ⟨E, hE⟩ := hlive n hn
  rcases hb with hb | ⟨n', z', cap', E', hk, hE', hφ'⟩
  ·exact h.dis b hb ⟨n, E, z, cap, hE, hφ⟩
  ·have := h.inj n' n E' E z' z b cap' cap hE' hE hφ' hφ
   subst this
   exact hkb n' hk hn
 ·rcases hb with hb | ⟨n', z', cap', E', hk, hE', hφ'⟩
  ·exact h.flt b hb
  ·exact h.lt ⟨n', E', z', cap', hE', hφ'⟩
 ·show Rep w _ _ (args.getD t .undef) (argv.getD t undef)
  by_cases ht : t < args.length
  ·have e1 : args[t]? = some args[t] := List.getElem?_eq_getElem ht
   have hx : t < xs.length := by omega
   have ha : t < argv.size := by omega
   have e2 : args.getD t .undef = args[t] := by simp [List.getD, e1]
   have e3 : argv.getD t undef = argv[t] := by simp [ha]
   rw [e2, e3]
   exact argRel_rep h hlive (harg t _ _ (List.getElem?_eq_getElem hx) e1) _ (hv t _ _ (List.getElem?_eq_getElem hx) (Array.getElem?_eq_getElem ha))
  ·have e2 : args.getD t .undef = .undef := by simp [List.getD, List.getElem?_eq_none (show args.length ≤ t by omega)]
   rw [e2]
   exact .undef
 ·obtain ⟨i, m, rfl, hm, _⟩ := hget n E h1
  obtain ⟨i', m', rfl, hm', _⟩ := hget n' E' h2
  obtain ⟨E1, hE1⟩ := hlive m (List.mem_of_getElem? hm)
  obtain ⟨E2, hE2⟩ := hlive m' (List.mem_of_getElem? hm')
  have := h.inj m m' E1 E2 z z' b cap cap' hE1 hE2 (by simpa [calleeEnv, hm] using h3) (by simpa [calleeEnv, hm'] using h4)
  subst this
  have hi := (List.getElem?_eq_some_iff.1 hm).1
  have := (List.getElem?_inj hi hnd).1 (hm.trans hm'.symm)
  rw [this]
 ·obtain ⟨i, m, rfl, hm, hi⟩ := hget n E hE
  obtain ⟨E', E0, hlv, hE', hr⟩ := hin i m hm
  rw [hi] at hE'
  cases hE'
  obtain ⟨loc, g1, g2, _⟩ := h.obj m _ hlv
  refine ⟨loc, by rw [hr.z]; simpa [calleeEnv, hm] using g1, ?_, fun hh => by rw [hr.mine] at hh; cases hh⟩
  cases loc with
  | nil =>
   have : E'.rows = [] := g2
   exact List.eq_nil_of_length_eq_zero (by rw [hr.len, this]; rfl)
  | «at» b cap =>
   obtain ⟨arr, fz, q1, qs, q2, q3, q4, q5, q6, q7⟩ := g2
   refine ⟨arr, fz, by rw [hr.e]; exact q1, by rw [hr.str]; exact qs, q2, by rw [hr.z]; exact q3, by rw [hr.len]; exact q4, q5, hr.rz, fun i' j y hy => ?_⟩
   obtain ⟨x, hx, hxy⟩ := hr.cell i' j y hy
   obtain ⟨u, u1, u2, u3⟩ := q7 i' j x hx
   exact ⟨u, by rw [hr.z]; exact u1, u2, argRel_rep h hlive hxy u u3⟩
 ·obtain ⟨m1, m2⟩ := n
  have hn' : argHp ins (m1, m2) = none := hn
  unfold argHp at hn'
  unfold calleeEnv
  split
  ·rename_i h1
   simp only at h1
   subst h1
   simp only [if_true] at hn'
   have : ins[m2]? = none := by simpa using hn'
   have hle : ins.length ≤ m2 := List.getElem?_eq_none_iff.1 this
   simp [List.getElem?_eq_none (show ns.length ≤ m2 by omega)]
  ·rfl
def retHpG (hp : Heap) (ns ks : List Nm) (outs : List Entry) (d : Nat) (own : List (Nat × Entry)) : Heap := addOwns d own (setOuts ns outs (killAll ks hp))
theorem ret_satG {tm : Array Value} (h : Sat w0 M0 F0 st tm w φ F) {ns kb ks : List Nm} {ins outs outs' : List Entry} {own own' : List (Nat × Entry)} {x y : V} {d : Nat} {v : Value} {w' : World} {φ' : Env} {F' F'' : Nat → Prop} {p : V → Prop}
    (hlen : ins.length = ns.length) (holen : outs.length = ins.length) (holen' : outs'.length = outs.length) (hnd : ns.Nodup) (hin : ∀ (i : Nat) n, ns[i]? = some n → ∃ E', st.hp n = some (some E'))
    (hks : ∀ n, n ∈ ks → n ∉ ns ∧ ∃ E, st.hp n = some (some E)) (hab : ∀ q E, (q, E) ∈ own' → st.hp (d, q) = none)
    (hc : Sat w ⟨Mset (argHp ins) (calleeEnv φ ns), calleeEnv φ ns⟩ (calleeF st.hp φ F kb) ⟨1, fun t => if t = 0 then x else .undef, addOwns 2000 own (argHp outs)⟩ #[v] w' φ' F') (hφi : ∀ i, i < ins.length → φ' (1000, i) = calleeEnv φ ns (1000, i))
    (hFF : ∀ c, F c → F'' c) (hfr : ∀ b, F'' b → F0 b ∨ w0.heap.size ≤ b) (hfd : ∀ b, F'' b → F b ∨ F' b) (hfk : ∀ b n E z cap, F'' b → st.hp n = some (some E) → φ n = some (z, .at b cap) → n ∈ ks)
    (hp : ∀ x, p x → ∀ u, Rep w' F' φ' x u → Rep w' F'' (retEnv φ φ' d own') x u) (hr : RetRel d ns own' p x y)
    (hro : ∀ q E', own'.lookup q = some E' → ∃ E, own.lookup q = some E ∧ OutRel d ns own' p E E' ∧ (E'.mine = true → E.mine = true)) (hou : ∀ (i : Nat) E', outs'[i]? = some E' → ∃ E, outs[i]? = some E ∧ OutRel d ns own' p E E') :
    Sat w0 M0 F0 { st with hp := retHpG st.hp ns ks outs' d own' } tm w' (retEnv φ φ' d own') F'' ∧ Rep w' F'' (retEnv φ φ' d own') y v := by
  have hlive : ∀ n, n ∈ ns → ∃ E, st.hp n = some (some E) := fun n hn => by
    obtain ⟨i, hi, rfl⟩ := List.getElem_of_mem hn
    obtain ⟨E, hE⟩ := hin i _ (List.getElem?_eq_getElem hi)
    exact ⟨_, hE⟩
  have hownd : ∀ m : Nm, (m.1 = d ∧ (own'.lookup m.2).isSome = true) → st.hp m = none := fun m hm => by
    obtain ⟨m1, m2⟩ := m
    obtain ⟨rfl, h2⟩ := hm
    obtain ⟨E, hE⟩ := Option.isSome_iff_exists.1 h2
    exact hab m2 E (lookup_mem hE)
  have hMc : ∀ b, Mset (argHp ins) (calleeEnv φ ns) b → ∃ i n z cap, ns[i]? = some n ∧ φ n = some (z, .at b cap) := fun b hb => by
    obtain ⟨m, E, z, cap, h1, h2⟩ := hb
    obtain ⟨m1, m2⟩ := m
    unfold argHp at h1
    split at h1
    · rename_i e
      simp only at e
      subst e
      cases hi : ns[m2]? with
      | none => simp [calleeEnv, hi] at h2
      | some n => exact ⟨m2, n, z, cap, hi, by simpa [calleeEnv, hi] using h2⟩
    · cases h1
  have hMM : ∀ b, Mset (argHp ins) (calleeEnv φ ns) b → Mset st.hp φ b := fun b hb => by
    obtain ⟨i, n, z, cap, hn, hφ⟩ := hMc b hb
    obtain ⟨E, hE⟩ := hlive n (List.mem_of_getElem? hn)
    exact ⟨n, E, z, cap, hE, hφ⟩
  -- the names of what is handed back, in the callee's state
  have hres : ∀ q E', own'.lookup q = some E' → ∃ E, addOwns 2000 own (argHp outs) (2000, q) = some (some E) ∧ OutRel d ns own' p E E' ∧ (E'.mine = true → E.mine = true) := fun q E' hE' => by
    obtain ⟨E, hE, h1, h2⟩ := hro q E' hE'
    refine ⟨E, ?_, h1, h2⟩
    rw [addOwns_at]
    simp [hE]
  have hresA : ∀ (i : Nat) E', outs'[i]? = some E' → ∃ E, addOwns 2000 own (argHp outs) (1000, i) = some (some E) ∧ OutRel d ns own' p E E' := fun i E' hE' => by
    obtain ⟨E, hE, h1⟩ := hou i E' hE'
    refine ⟨E, ?_, h1⟩
    rw [addOwns_at]
    simp [argHp, hE]
  have hat : ∀ m, retHpG st.hp ns ks outs' d own' m = if m.1 = d ∧ (own'.lookup m.2).isSome = true then (own'.lookup m.2).map some else setOuts ns outs' (killAll ks st.hp) m := fun m => by
    unfold retHpG
    rw [addOwns_at]
    by_cases h1 : m.1 = d
    · cases h2 : own'.lookup m.2 <;> simp [h1]
    · simp [h1]
  have hnsd : ∀ n, n ∈ ns → ¬ (n.1 = d ∧ (own'.lookup n.2).isSome = true) := fun n hn hh => by
    obtain ⟨E, hE⟩ := hlive n hn
    rw [hownd n hh] at hE; cases hE
  have hkill : ∀ n, n ∈ ns → killAll ks st.hp n = st.hp n := fun n hn => by
    unfold killAll
    rw [if_neg (fun hk => (hks n hk).1 hn)]
  -- what lives behind the call
  have hcase : ∀ m E, retHpG st.hp ns ks outs' d own' m = some (some E) →
      (m.1 = d ∧ own'.lookup m.2 = some E) ∨ (∃ (i : Nat) (E0 E' : Entry), ns[i]? = some m ∧ outs'[i]? = some E0 ∧ E = { E0 with mine := E'.mine } ∧ st.hp m = some (some E') ∧ ¬ (m.1 = d ∧ (own'.lookup m.2).isSome = true)) ∨
      (m ∉ ns ∧ m ∉ ks ∧ st.hp m = some (some E) ∧ ¬ (m.1 = d ∧ (own'.lookup m.2).isSome = true)) := fun m E hE => by
    rw [hat] at hE
    split at hE
    · rename_i hh
      obtain ⟨E', hE'⟩ := Option.isSome_iff_exists.1 hh.2
      rw [hE'] at hE
      simp only [Option.map_some, Option.some.injEq] at hE
      exact .inl ⟨hh.1, hE ▸ hE'⟩
    · rename_i hh
      by_cases hm : m ∈ ns
      · obtain ⟨i, hi, e⟩ := List.getElem_of_mem hm
        have hni : ns[i]? = some m := by rw [List.getElem?_eq_getElem hi, e]
        have hoi : i < outs'.length := by omega
        obtain ⟨E', hE'⟩ := hin i m hni
        rw [setOuts_at hnd hni (List.getElem?_eq_getElem hoi)] at hE
        simp only [Option.some.injEq] at hE
        refine .inr (.inl ⟨i, _, E', hni, List.getElem?_eq_getElem hoi, ?_, hE', hh⟩)
        rw [← hE]
        simp [mineOf, hkill m hm, hE']
      · rw [setOuts_other hm] at hE
        unfold killAll at hE
        split at hE
        · cases hE
        · rename_i hk
          exact .inr (.inr ⟨hm, hk, hE, hh⟩)
  have hφo : ∀ m : Nm, ¬ (m.1 = d ∧ (own'.lookup m.2).isSome = true) → retEnv φ φ' d own' m = φ m := fun m hm => by unfold retEnv; rw [if_neg hm]
  have hφd : ∀ (m : Nm) E, m.1 = d → own'.lookup m.2 = some E → retEnv φ φ' d own' m = φ' (2000, m.2) := fun m E h1 h2 => by unfold retEnv; rw [if_pos ⟨h1, by simp [h2]⟩]
  have hφn : ∀ (i : Nat) n, ns[i]? = some n → φ' (1000, i) = φ n := fun i n hn => by
    rw [hφi i (by rw [hlen]; exact (List.getElem?_eq_some_iff.1 hn).1)]
    simp [calleeEnv, hn]
  have ht : Turn w0 M0 st.hp w φ (retHpG st.hp ns ks outs' d own') w' (retEnv φ φ' d own') (fun m => m ∈ ns ∨ m ∈ ks ∨ (m.1 = d ∧ (own'.lookup m.2).isSome = true)) :=
    { os := hc.os, tape := hc.tape, output := hc.output, size := hc.size
      frz := fun c hlt hM => hc.old c hlt (fun hm => hM (hMM c hm))
      same := fun m hm => by
        simp only [not_or] at hm
        refine ⟨?_, hφo m hm.2.2⟩
        rw [hat, if_neg hm.2.2, setOuts_other hm.1]
        unfold killAll
        rw [if_neg hm.2.1]
      env := fun m e he => by
        by_cases hh : m.1 = d ∧ (own'.lookup m.2).isSome = true
        · rw [h.absent m (hownd m hh)] at he; cases he
        · rw [hφo m hh]; exact he
      blk := fun m E z b cap hm hE hφm => by
        simp only [not_or] at hm
        refine hc.old b (h.lt ⟨m, E, z, cap, hE, hφm⟩) (fun hb => ?_)
        obtain ⟨i, n, z', cap', hn, hφn'⟩ := hMc b hb
        obtain ⟨En, hEn⟩ := hlive n (List.mem_of_getElem? hn)
        have := h.inj m n E En z z' b cap cap' hE hEn hφm hφn'
        subst this
        exact hm.1 (List.mem_of_getElem? hn)
      own := fun m E z b cap hm hE hφm => by
        rcases hcase m E hE with ⟨h1, h2⟩ | ⟨i, E0, E', hni, hoi, _, hE', hh⟩ | ⟨h1, h2, h3, hh⟩
        · rw [hφd m E h1 h2] at hφm
          obtain ⟨Ec, hEc, -, -⟩ := hres _ _ h2
          rcases hc.mine b ⟨(2000, m.2), Ec, z, cap, hEc, hφm⟩ with hb | hb
          · exfalso
            obtain ⟨i, n, z', cap', hn, hφn'⟩ := hMc b hb
            have hoi : i < outs'.length := by have := (List.getElem?_eq_some_iff.1 hn).1; omega
            obtain ⟨Ea, hEa, -⟩ := hresA i _ (List.getElem?_eq_getElem hoi)
            have := hc.inj (2000, m.2) (1000, i) Ec Ea z z' b cap cap' hEc hEa hφm ((hφn i n hn).trans hφn')
            simp at this
          · exact .inl hb
        · rw [hφo m hh] at hφm
          exact .inr ⟨m, E', z, cap, .inl (List.mem_of_getElem? hni), hE', hφm⟩
        · rcases hm with hm | hm | hm
          · exact absurd hm h1
          · exact absurd hm h2
          · exact absurd hm hh
      tinj := fun m m' E E1 z z' b cap cap' hm hm' hE hE1 hφm hφm' => by
        have key : ∀ {q Eq zq capq}, (q ∈ ns ∨ q ∈ ks ∨ (q.1 = d ∧ (own'.lookup q.2).isSome = true)) → retHpG st.hp ns ks outs' d own' q = some (some Eq) → retEnv φ φ' d own' q = some (zq, .at b capq) →
            ∃ q' Eq', addOwns 2000 own (argHp outs) q' = some (some Eq') ∧ φ' q' = some (zq, .at b capq) ∧ ((q.1 = d ∧ q' = (2000, q.2)) ∨ ∃ i, ns[i]? = some q ∧ q' = (1000, i)) := fun {q Eq zq capq} hq hEq hφq => by
          rcases hcase q Eq hEq with ⟨h1, h2⟩ | ⟨i, E0, E', hni, hoi, _, hE', hh⟩ | ⟨h1, h2, h3, hh⟩
          · rw [hφd q Eq h1 h2] at hφq
            obtain ⟨Ec, hEc, -, -⟩ := hres _ _ h2
            exact ⟨_, _, hEc, hφq, .inl ⟨h1, rfl⟩⟩
          · rw [hφo q hh] at hφq
            obtain ⟨Ea, hEa, -⟩ := hresA i _ hoi
            exact ⟨_, _, hEa, (hφn i q hni).trans hφq, .inr ⟨i, hni, rfl⟩⟩
          · rcases hq with hq | hq | hq
            · exact absurd hq h1
            · exact absurd hq h2
            · exact absurd hq hh
        obtain ⟨q, Eq, a1, a2, a3⟩ := key hm hE hφm
        obtain ⟨q', Eq', b1, b2, b3⟩ := key hm' hE1 hφm'
        have := hc.inj q q' Eq Eq' z z' b cap cap' a1 b1 a2 b2
        subst this
        rcases a3 with ⟨c1, rfl⟩ | ⟨i, c1, rfl⟩ <;> rcases b3 with ⟨c2, e⟩ | ⟨i', c2, e⟩
        · simp at e; exact Prod.ext (c1.trans c2.symm) e
        · simp at e
        · simp at e
        · simp at e; subst e; rw [c1] at c2; exact Option.some.inj c2
      abs := fun m hm hE => by
        exfalso
        rw [hat] at hE
        split at hE
        · rename_i hh
          obtain ⟨E', hE'⟩ := Option.isSome_iff_exists.1 hh.2
          simp [hE'] at hE
        · rename_i hh
          rcases hm with hm | hm | hm
          · obtain ⟨E, hE'⟩ := hlive m hm
            exact setOuts_ne (by rw [hkill m hm, hE']; simp) hE
          · refine setOuts_ne ?_ hE
            unfold killAll
            rw [if_pos hm]; simp
          · exact hh hm }
  have hdis : ∀ b, F'' b → ¬ Mset (retHpG st.hp ns ks outs' d own') (retEnv φ φ' d own') b := fun b hb hm => by
    obtain ⟨m, E, z, cap, hE, hφm⟩ := hm
    rcases hcase m E hE with ⟨h1, h2⟩ | ⟨i, E0, E', hni, hoi, _, hE', hh⟩ | ⟨h1, h2, h3, hh⟩
    · rw [hφd m E h1 h2] at hφm
      obtain ⟨Ec, hEc, -, -⟩ := hres _ _ h2
      have hM' : Mset (addOwns 2000 own (argHp outs)) φ' b := ⟨(2000, m.2), Ec, z, cap, hEc, hφm⟩
      rcases hfd b hb with hb' | hb'
      · rcases hc.mine b hM' with hq | hq
        · exact h.dis b hb' (hMM b hq)
        · have := h.flt b hb'; omega
      · exact hc.dis b hb' hM'
    · rw [hφo m hh] at hφm
      exact (hks m (hfk b m E' z cap hb hE' hφm)).1 (List.mem_of_getElem? hni)
    · rw [hφo m hh] at hφm
      exact h2 (hfk b m E z cap hb h3 hφm)
  have hflt : ∀ b, F'' b → b < w'.heap.size := fun b hb => by
    rcases hfd b hb with hb' | hb'
    · exact Nat.lt_of_lt_of_le (h.flt b hb') hc.size
    · exact hc.flt b hb'
  have hkey : ∀ {x y : V}, RetRel d ns own' p x y → ∀ u, Rep w' F' φ' x u → Rep w' F'' (retEnv φ φ' d own') y u := fun hr u hu => by
    refine retRel_rep hp (fun q hq => ?_) (fun i n hn => ?_) hr u hu
    · obtain ⟨E', hE'⟩ := Option.isSome_iff_exists.1 hq
      exact hφd (d, q) E' rfl hE'
    · have hh := hnsd n (List.mem_of_getElem? hn)
      rw [hφo n hh, hφn i n hn]
  refine ⟨h.turnF ht hFF hfr hdis hflt h.slots (fun t => (h.rep t).mono (h.ext ht) hFF ht.env) (fun m E hm hE => ?_), ?_⟩
  · rcases hcase m E hE with ⟨h1, h2⟩ | ⟨i, E0, E', hni, hoi, hEe, hE', hh⟩ | ⟨h1, h2, h3, hh⟩
    · obtain ⟨Ec, hEc, hrel, hmi⟩ := hres _ _ h2
      obtain ⟨loc, g1, g2, g3⟩ := hc.obj (2000, m.2) Ec hEc
      refine ⟨loc, (hφd m E h1 h2).trans (by rw [hrel.z]; exact g1), outHolds hrel g2 hkey, fun hmn b cap hl => Nat.le_trans h.size (g3 (hmi hmn) b cap hl)⟩
    · obtain ⟨Ea, hEa, hrel⟩ := hresA i _ hoi
      obtain ⟨loc, g1, g2, -⟩ := hc.obj (1000, i) Ea hEa
      rw [hφn i m hni] at g1
      obtain ⟨loc', k1, -, k3⟩ := h.obj m E' hE'
      subst hEe
      refine ⟨loc, (hφo m hh).trans (by show φ m = some (E0.z, loc); rw [hrel.z]; exact g1), ?_, fun hmn b cap hl => ?_⟩
      · exact outHolds hrel g2 hkey
      · rw [g1] at k1
        obtain ⟨-, rfl⟩ : Ea.z = E'.z ∧ loc = loc' := by simpa using k1
        exact k3 hmn b cap hl
    · rcases hm with hm | hm | hm
      · exact absurd hm h1
      · exact absurd hm h2
      · exact absurd hm hh
  · have := hc.rep 0
    simp only [if_true] at this
    exact hkey hr _ (by simpa using this)
def RunsG (P : Program) (f : FuncId) (args : List V) (ins : List Entry) (x : V) (own : List (Nat × Entry)) (outs : List Entry) : Prop :=
 ∀ (w : World) (argv : Array Value) (φ : Env) (F : Nat → Prop), Sat w ⟨Mset (argHp ins) φ, φ⟩ F (argSt args ins) argv w φ F →
  Calls P f argv w fun e w' => ∃ v φ' F', e = .returned v ∧ Sat w ⟨Mset (argHp ins) φ, φ⟩ F ⟨1, fun t => if t = 0 then x else .undef, addOwns 2000 own (argHp outs)⟩ #[v] w' φ' F' ∧ outs.length = ins.length
theorem Runs.g {f : FuncId} {args : List V} {ins : List Entry} {r : V} {outs : List Entry} (h : Runs P f args ins r outs) : RunsG P f args ins (r.mat 2000) r.owns outs := h
structure CallByG (P : Program) (st : St) (o : Oper) (d : Nat) (y : V) (own' : List (Nat × Entry)) (ns ks kb : List Nm) (outs' : List Entry) : Prop where
 by_ : ∃ (fop : Operand) (args : Array Operand) (tys : Array TypeId) (f : FuncId) (caps cargs : List V) (ins outs : List Entry) (x : V) (own : List (Nat × Entry)) (p : V → Prop),
  o.op = .call { callee := .value fop, args := args, argTypes := tys } ∧ st.ev fop = .fn f caps ∧ callable P f = true ∧ RunsG P f cargs ins x own outs ∧
  ins.length = ns.length ∧ outs'.length = outs.length ∧ ns.Nodup ∧ (∀ (i : Nat) n, ns[i]? = some n → ∃ E' E, st.hp n = some (some E') ∧ ins[i]? = some E ∧ InsRel st.hp ns kb E' E) ∧ (∀ n, n ∈ kb → n ∉ ns) ∧
  (args.toList.map st.ev ++ caps).length = cargs.length ∧ (∀ (i : Nat) x y, (args.toList.map st.ev ++ caps)[i]? = some x → cargs[i]? = some y → ArgRel st.hp ns kb x y) ∧
  (∀ q E, (q, E) ∈ own' → st.hp (d, q) = none) ∧ RetRel d ns own' p x y ∧ (∀ q E', own'.lookup q = some E' → ∃ E, own.lookup q = some E ∧ OutRel d ns own' p E E' ∧ (E'.mine = true → E.mine = true)) ∧
  (∀ (i : Nat) E', outs'[i]? = some E' → ∃ E, outs[i]? = some E ∧ OutRel d ns own' p E E') ∧
  ((ks = kb ∧ (∀ n, n ∈ kb → ∃ E, st.hp n = some (some E) ∧ E.mine = true) ∧ ∀ x, p x → x.free = true) ∨ (ks = [] ∧ ∀ x, p x → ∃ u, x = .sc u ∨ x = .nils))
theorem ok_callG {a : Act} {o : Oper} {next : Act → World → Prop} {Q : Exit → Act → World → Prop} (h : Sat w0 M0 F0 st a.tmps w φ F) {d : Nat} (_hdst : o.dst = some d) (hd : dstOk o.dst st.n = true) {y : V} {own' : List (Nat × Entry)} {ns ks kb : List Nm} {outs' : List Entry} (hcb : CallByG P st o d y own' ns ks kb outs')
    (hn : Next w0 M0 F0 { st.put o.dst y with hp := retHpG st.hp ns ks outs' d own' } a.defers next) : o.wp P a w next Q := by
  obtain ⟨fop, args, tys, f, caps, cargs, ins, outs, x, own, p, ho, hf, hcl, hrun, hlen, holen', hnd, hin, hkb, hxl, harg, hab, hrx, hro, hou, hmode⟩ := hcb.by_
  have hrf := hf ▸ h.ev fop
  generalize hfv : a.eval fop = fv at hrf
  obtain ⟨vs, rfl, hcl1, hcl2⟩ := hrf.fn_inv
  have hex := exec_call (P := P) (w := w) hfv hcl ho
  have hvl : (args.map a.eval ++ vs.toArray).size = cargs.length := by rw [← hxl]; simp [hcl1]
  have hsat := callee_satG (argv := args.map a.eval ++ vs.toArray) h hlen hnd hin hkb hxl harg hvl (fun i x v hx hv => by
    have hv' : (args.toList.map a.eval ++ vs)[i]? = some v := by
      rw [← Array.getElem?_toList] at hv
      simpa using hv
    by_cases hi : i < args.toList.length
    · rw [List.getElem?_append_left (by simpa using hi), List.getElem?_map, List.getElem?_eq_getElem hi] at hx hv'
      simp only [Option.map_some, Option.some.injEq] at hx hv'
      subst hx; subst hv'
      exact h.ev _
    · rw [List.getElem?_append_right (by simpa using hi)] at hx hv'
      simp only [List.length_map] at hx hv'
      exact hcl2 _ x v hx hv')
  have hcall := hrun w (args.map a.eval ++ vs.toArray) (calleeEnv φ ns) (calleeF st.hp φ F kb) hsat
  unfold Oper.wp
  rw [hex, Oper.upon_enter]
  refine hcall.mono fun e w' he => ?_
  obtain ⟨v, φ', F', rfl, hc, holen⟩ := he
  have hin1 : ∀ (i : Nat) n, ns[i]? = some n → ∃ E', st.hp n = some (some E') := fun i n hi => by
    obtain ⟨E', _, hE', _⟩ := hin i n hi
    exact ⟨E', hE'⟩
  have hφi : ∀ i, i < ins.length → φ' (1000, i) = calleeEnv φ ns (1000, i) := fun i hi => by
    obtain ⟨E', hE'⟩ := hin1 i _ (List.getElem?_eq_getElem (show i < ns.length by omega))
    obtain ⟨loc, g1, -⟩ := h.obj _ E' hE'
    have e : calleeEnv φ ns (1000, i) = some (E'.z, loc) := by simp [calleeEnv, List.getElem?_eq_getElem (show i < ns.length by omega), g1]
    rw [e]
    exact (hc.bas _ _ e).2
  have fin : ∀ {F'' : Nat → Prop}, Sat w0 M0 F0 { st with hp := retHpG st.hp ns ks outs' d own' } a.tmps w' (retEnv φ φ' d own') F'' ∧ Rep w' F'' (retEnv φ φ' d own') y v → next (a.put o.dst v) w' := fun {F''} hh => by
    have h2 := hh.1.put (a := a) (d := o.dst) (x := y) (v := v) hd hh.2
    refine hn (a.put o.dst v) w' (retEnv φ φ' d own') F'' ?_ (put_defers' _ _ _)
    have e : ({ st with hp := retHpG st.hp ns ks outs' d own' } : St).put o.dst y = { st.put o.dst y with hp := retHpG st.hp ns ks outs' d own' } := by cases o.dst <;> rfl
    rw [e] at h2
    exact h2
  rcases hmode with ⟨rfl, hmine, m1⟩ | ⟨rfl, m1⟩
  · refine fin (F'' := fun b => F b ∨ F' b) (ret_satG (p := p) h hlen holen holen' hnd hin1 (fun n hn => ⟨hkb n hn, by obtain ⟨E, hE, _⟩ := hmine n hn; exact ⟨E, hE⟩⟩) hab hc hφi (fun _ h => .inl h) (fun b hb => ?_) (fun b hb => hb) (fun b n E z cap hb hE hφ => ?_)
      (fun x hx u hu => (hu.mono (w' := w') (fun _ _ => rfl) (fun _ h => .inr h) (fun _ _ h => h)).unname (m1 x hx)) hrx hro hou)
    · rcases hb with hb | hb
      · exact h.fr b hb
      · rcases hc.fr b hb with (hb' | ⟨n, z, cap, E, hk, hE, hφ⟩) | hb'
        · exact h.fr b hb'
        · obtain ⟨E', hE', hm⟩ := hmine n hk
          obtain ⟨loc, g1, -, g3⟩ := h.obj n E' hE'
          rw [hφ] at g1
          obtain ⟨-, rfl⟩ : z = E'.z ∧ Loc.at b cap = loc := by simpa using g1
          exact .inr (g3 hm b cap rfl)
        · exact .inr (Nat.le_trans h.size hb')
    · rcases hb with hb | hb
      · exact absurd ⟨n, E, z, cap, hE, hφ⟩ (h.dis b hb)
      · rcases hc.fr b hb with (hb' | ⟨n', z', cap', E', hk, hE', hφ'⟩) | hb'
        · exact absurd ⟨n, E, z, cap, hE, hφ⟩ (h.dis b hb')
        · have := h.inj n n' E E' z z' b cap cap' hE hE' hφ hφ'
          subst this
          exact hk
        · have := h.lt ⟨n, E, z, cap, hE, hφ⟩; omega
  · refine fin (F'' := F) (ret_satG (p := p) h hlen holen holen' hnd hin1 (fun n hn => by cases hn) hab hc hφi (fun _ h => h) (fun b hb => h.fr b hb) (fun b hb => .inl hb)
      (fun b n E z cap hb hE hφ => absurd ⟨n, E, z, cap, hE, hφ⟩ (h.dis b hb)) (fun x hx u hu => ?_) hrx hro hou)
    obtain ⟨s, rfl | rfl⟩ := m1 x hx
    · obtain ⟨rfl, hs⟩ := hu.sc_inv; exact .sc hs
    · cases hu; exact .nils
end
end Go.Abs
