/- The abstract layer, part A10. -/
import Derived.Test.YtbkmnbpgpklojaaGreatDoorAbsA9
namespace Go.Abs
open Go
section
variable {P : Program} {w0 : World} {M0 : Base} {F0 : Nat → Prop} {st : St} {a : Act} {w : World} {φ : Env} {F : Nat → Prop} {o : Oper} {next : Act → World → Prop} {Q : Exit → Act → World → Prop}
def callable (P : Program) (f : FuncId) : Bool := match P.funcs[f]? with | some fn => fn.name != "runtime.NumGoroutine" && fn.body.isSome | none => false
theorem exec_call {fop : Operand} {args : Array Operand} {tys : Array TypeId} {f : FuncId} {vs : List Value} (hf : a.eval fop = .func (.func f) #[] vs.toArray) (hc : callable P f = true)
  (ho : o.op = .call { callee := .value fop, args := args, argTypes := tys }) : (execOp a.eval o).run P w = .ok (.enter f (args.map a.eval ++ vs.toArray)) w := by
 unfold callable at hc
 cases hfn : P.funcs[f]? with
 | none => simp [hfn] at hc
 | some fn =>
  simp only [hfn, Bool.and_eq_true, bne_iff_ne, ne_eq] at hc
  have h2 : ¬ fn.body = none := fun hb => by rw [hb] at hc; simp at hc
  have h1 : ¬ fn.name = "runtime.NumGoroutine" := by simpa using hc.1
  simp [execOp, ho, resolve, hf, Deferred.ofValue, invoke, callFunc, hfn, h1, h2]
structure CallBy (P : Program) (st : St) (o : Oper) (d : Nat) (r : V) (ns ks kb : List Nm) (outs : List Entry) : Prop where
  by_ : ∃ (fop : Operand) (args : Array Operand) (tys : Array TypeId) (f : FuncId) (caps cargs : List V) (ins : List Entry),
    o.op = .call { callee := .value fop, args := args, argTypes := tys } ∧ st.ev fop = .fn f caps ∧ callable P f = true ∧ Runs P f cargs ins r outs ∧
    ins.length = ns.length ∧ ns.Nodup ∧ (∀ (i : Nat) n, ns[i]? = some n → ∃ E', st.hp n = some (some E') ∧ ins[i]? = some { E' with mine := false }) ∧ (∀ E, E ∈ ins → AllFree E.rows) ∧ (∀ n, n ∈ kb → n ∉ ns) ∧
    (args.toList.map st.ev ++ caps).length = cargs.length ∧ (∀ (i : Nat) x y, (args.toList.map st.ev ++ caps)[i]? = some x → cargs[i]? = some y → ArgRel st.hp ns kb x y) ∧
    (∀ q E, (q, E) ∈ r.owns → st.hp (d, q) = none) ∧
    ((ks = kb ∧ (∀ n, n ∈ kb → ∃ E, st.hp n = some (some E) ∧ E.mine = true) ∧ okResP (fun x => x.free = true) r ∧ (∀ q E, (q, E) ∈ r.owns → AllFree E.rows) ∧ (∀ E, E ∈ outs → AllFree E.rows)) ∨
     (ks = [] ∧ okResP (fun x => ∃ u, x = .sc u ∨ x = .nils) r ∧ (∀ q E, (q, E) ∈ r.owns → ∀ i j x, cellAt E.rows i j = some x → ∃ u, x = .sc u ∨ x = .nils) ∧ (∀ E, E ∈ outs → ∀ i j x, cellAt E.rows i j = some x → ∃ u, x = .sc u ∨ x = .nils)))
theorem ok_call (h : Sat w0 M0 F0 st a.tmps w φ F) {d : Nat} (_hdst : o.dst = some d) (hd : dstOk o.dst st.n = true) {r : V} {ns ks kb : List Nm} {outs : List Entry} (hcb : CallBy P st o d r ns ks kb outs)
    (hn : Next w0 M0 F0 { st.put o.dst (r.mat d) with hp := retHp st.hp ns ks outs d r } a.defers next) : o.wp P a w next Q := by
  obtain ⟨fop, args, tys, f, caps, cargs, ins, ho, hf, hcl, hrun, hlen, hnd, hin, hfree, hkb, hxl, harg, hab, hmode⟩ := hcb.by_
  have hrf := hf ▸ h.ev fop
  generalize hfv : a.eval fop = fv at hrf
  obtain ⟨vs, rfl, hcl1, hcl2⟩ := hrf.fn_inv
  have hex := exec_call (P := P) (w := w) hfv hcl ho
  have hvl : (args.map a.eval ++ vs.toArray).size = cargs.length := by rw [← hxl]; simp [hcl1]
  have hsat := callee_sat (argv := args.map a.eval ++ vs.toArray) h hlen hnd hin hfree hkb hxl harg hvl (fun i x v hx hv => by
    have hv' : (args.toList.map a.eval ++ vs)[i]? = some v := by
      rw [← Array.getElem?_toList] at hv
      simpa using hv
    by_cases hi : i < args.toList.length
    · rw [List.getElem?_append_left (by simpa using hi), List.getElem?_map, List.getElem?_eq_getElem hi] at hx hv'
      simp only [Option.map_some, Option.some.injEq] at hx hv'
      subst hx; subst hv'
      exact h.ev _
    · rw [List.getElem?_append_right (by simpa using hi)] at hx hv'
      simp only [List.length_map] at hx hv'
      exact hcl2 _ x v hx hv')
  have hcall := hrun w (args.map a.eval ++ vs.toArray) (calleeEnv φ ns) (calleeF st.hp φ F kb) hsat
  unfold Oper.wp
  rw [hex, Oper.upon_enter]
  refine hcall.mono fun e w' he => ?_
  obtain ⟨v, φ', F', rfl, hc, holen⟩ := he
  have hφi : ∀ i, i < ins.length → φ' (1000, i) = calleeEnv φ ns (1000, i) := fun i hi => by
    have hin' := hin i _ (List.getElem?_eq_getElem (show i < ns.length by omega))
    obtain ⟨E', hE', _⟩ := hin'
    obtain ⟨loc, g1, -⟩ := h.obj _ E' hE'
    have e : calleeEnv φ ns (1000, i) = some (E'.z, loc) := by simp [calleeEnv, List.getElem?_eq_getElem (show i < ns.length by omega), g1]
    rw [e]
    exact (hc.bas _ _ e).2
  have fin : ∀ {F'' : Nat → Prop}, Sat w0 M0 F0 { st with hp := retHp st.hp ns ks outs d r } a.tmps w' (retEnv φ φ' d r.owns) F'' ∧ Rep w' F'' (retEnv φ φ' d r.owns) (r.mat d) v → next (a.put o.dst v) w' := fun {F''} hh => by
    have h2 := hh.1.put (a := a) (d := o.dst) (x := r.mat d) (v := v) hd hh.2
    refine hn (a.put o.dst v) w' (retEnv φ φ' d r.owns) F'' ?_ (put_defers' _ _ _)
    have e : ({ st with hp := retHp st.hp ns ks outs d r } : St).put o.dst (r.mat d) = { st.put o.dst (r.mat d) with hp := retHp st.hp ns ks outs d r } := by cases o.dst <;> rfl
    rw [e] at h2
    exact h2
  rcases hmode with ⟨rfl, hmine, m1, m2, m3⟩ | ⟨rfl, m1, m2, m3⟩
  · refine fin (F'' := fun b => F b ∨ F' b) (ret_sat (p := fun x => x.free = true) h hlen holen hnd hin (fun n hn => ⟨hkb n hn, by obtain ⟨E, hE, _⟩ := hmine n hn; exact ⟨E, hE⟩⟩) hab hc hφi (fun _ h => .inl h) (fun b hb => ?_) (fun b hb => hb) (fun b n E z cap hb hE hφ => ?_)
      (fun x hx u hu => (hu.mono (w' := w') (fun _ _ => rfl) (fun _ h => .inr h) (fun _ _ h => h)).unname hx) m1 m2 m3)
    · rcases hb with hb | hb
      · exact h.fr b hb
      · rcases hc.fr b hb with (hb' | ⟨n, z, cap, E, hk, hE, hφ⟩) | hb'
        · exact h.fr b hb'
        · obtain ⟨E', hE', hm⟩ := hmine n hk
          obtain ⟨loc, g1, -, g3⟩ := h.obj n E' hE'
          rw [hφ] at g1
          obtain ⟨-, rfl⟩ : z = E'.z ∧ Loc.at b cap = loc := by simpa using g1
          exact .inr (g3 hm b cap rfl)
        · exact .inr (Nat.le_trans h.size hb')
    · rcases hb with hb | hb
      · exact absurd ⟨n, E, z, cap, hE, hφ⟩ (h.dis b hb)
      · rcases hc.fr b hb with (hb' | ⟨n', z', cap', E', hk, hE', hφ'⟩) | hb'
        · exact absurd ⟨n, E, z, cap, hE, hφ⟩ (h.dis b hb')
        · have := h.inj n n' E E' z z' b cap cap' hE hE' hφ hφ'
          subst this
          exact hk
        · have := h.lt ⟨n, E, z, cap, hE, hφ⟩; omega
  · refine fin (F'' := F) (ret_sat (p := fun x => ∃ u, x = .sc u ∨ x = .nils) h hlen holen hnd hin (fun n hn => by cases hn) hab hc hφi (fun _ h => h) (fun b hb => h.fr b hb) (fun b hb => .inl hb)
      (fun b n E z cap hb hE hφ => absurd ⟨n, E, z, cap, hE, hφ⟩ (h.dis b hb)) (fun x hx u hu => ?_) m1 m2 m3)
    obtain ⟨s, rfl | rfl⟩ := hx
    · obtain ⟨rfl, hs⟩ := hu.sc_inv; exact .sc hs
    · cases hu; exact .nils
end
end Go.Abs
