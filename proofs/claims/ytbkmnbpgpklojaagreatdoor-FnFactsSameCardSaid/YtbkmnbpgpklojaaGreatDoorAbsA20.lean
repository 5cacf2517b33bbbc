/- The abstract layer, part A20. -/
import Derived.Test.YtbkmnbpgpklojaaGreatDoorAbsA19
namespace Go.Abs
open Go
def outsH : List Nm → List Entry → Hp → Hp
 | n :: ns, E :: Es, H => outsH ns Es ((n, some { E with mine := mineOf (lkH H) n }) :: H)
 | _, _, H => H
theorem setOuts_lkH : ∀ (ns : List Nm) (Es : List Entry) (H : Hp), setOuts ns Es (lkH H) = lkH (outsH ns Es H)
 | [], _, H => by unfold setOuts outsH; rfl
 | n :: ns, [], H => by unfold setOuts outsH; rfl
 | n :: ns, E :: Es, H => by unfold setOuts outsH; rw [upd_lkH, setOuts_lkH ns Es]
theorem killAll_lkH (ks : List Nm) (H : Hp) : killAll ks (lkH H) = lkH (ks.map (fun k => (k, none)) ++ H) := by
 induction ks with
 | nil => funext m; simp [killAll]
 | cons k ks ih =>
  have : killAll (k :: ks) (lkH H) = upd (killAll ks (lkH H)) k none := by
   funext m; unfold killAll upd
   by_cases h : m = k <;> simp [h]
  rw [this, ih, upd_lkH]; rfl
theorem addOwns_lkH (d : Nat) (l : List (Nat × Entry)) (H : Hp) : addOwns d l (lkH H) = lkH (l.map (fun q => ((d, q.1), some q.2)) ++ H) := by
 induction l with
 | nil => rfl
 | cons q l ih =>
  have : addOwns d (q :: l) (lkH H) = upd (addOwns d l (lkH H)) (d, q.1) (some q.2) := rfl
  rw [this, ih, upd_lkH]; rfl
theorem retHp_lkH (H : Hp) (ns ks : List Nm) (outs : List Entry) (d : Nat) (r : V) :
  retHp (lkH H) ns ks outs d r = lkH (r.owns.map (fun q => ((d, q.1), some q.2)) ++ outsH ns outs (ks.map (fun k => (k, none)) ++ H)) := by
 unfold retHp
 rw [killAll_lkH, setOuts_lkH, addOwns_lkH]
inductive ArgsR (H : Hp) (ns kb : List Nm) : List V → List V → Prop where
 | nil : ArgsR H ns kb [] []
 | cons {x y : V} {xs ys : List V} (h : ArgRel (lkH H) ns kb x y) (t : ArgsR H ns kb xs ys) : ArgsR H ns kb (x :: xs) (y :: ys)
theorem ArgsR.len {H : Hp} {ns kb : List Nm} {xs ys : List V} (h : ArgsR H ns kb xs ys) : xs.length = ys.length := by
 induction h with
 | nil => rfl
 | cons _ _ ih => simp [ih]
theorem ArgsR.get {H : Hp} {ns kb : List Nm} {xs ys : List V} (h : ArgsR H ns kb xs ys) : ∀ (i : Nat) x y, xs[i]? = some x → ys[i]? = some y → ArgRel (lkH H) ns kb x y := by
 induction h with
 | nil => intro i x y hx; simp at hx
 | cons h _ ih =>
  intro i x y hx hy
  cases i with
  | zero => simp at hx hy; subst hx hy; exact h
  | succ i => exact ih i x y (by simpa using hx) (by simpa using hy)
theorem lend {H : Hp} {ns kb : List Nm} {n : Nm} {e : TypeId} {z len : Nat} {rows : List (List V)} {s m : Bool} (hn : lkH H n = some (some ⟨e, z, rows, s, m⟩)) (hk : n ∈ kb) (hl : len = rows.length) (hf : AllFree rows) (hz : ∀ r, r ∈ rows → r.length = z) :
  ArgRel (lkH H) ns kb (.ref n 0 len) (.lst z rows) :=
 .refLst (E := ⟨e, z, rows, s, m⟩) hn hk (by simp only; omega) hl.symm hz (fun i j => (cellAt rows i j).getD .undef) (fun i j x hx => by simp [hx]) (fun i j x hx => by rw [hx]; exact .free (hf i j x hx)) hf
def insOf (H : Hp) : List Nm → List Entry → Prop
 | [], [] => True
 | n :: ns, E :: Es => (∃ E', lkH H n = some (some E') ∧ E = { E' with mine := false }) ∧ insOf H ns Es
 | _, _ => False
theorem insOf_get {H : Hp} : ∀ {ns : List Nm} {ins : List Entry}, insOf H ns ins → ins.length = ns.length ∧ ∀ (i : Nat) n, ns[i]? = some n → ∃ E', lkH H n = some (some E') ∧ ins[i]? = some { E' with mine := false }
 | [], [], _ => ⟨rfl, fun i n h => by simp at h⟩
 | n :: ns, E :: Es, h => by
  obtain ⟨h1, h2⟩ := insOf_get h.2
  refine ⟨by simp [h1], fun i m hm => ?_⟩
  cases i with
  | zero =>
   simp only [List.getElem?_cons_zero, Option.some.injEq] at hm
   subst hm
   obtain ⟨E', h3, h4⟩ := h.1
   exact ⟨E', h3, by simp [h4]⟩
  | succ i => exact h2 i m (by simpa using hm)
 | [], _ :: _, h => h.elim
 | _ :: _, [], h => h.elim
def isScN (x : V) : Bool := match x with | .sc _ | .nils => true | _ => false
theorem isScN_iff {x : V} (h : isScN x = true) : ∃ u, x = .sc u ∨ x = .nils := by
 cases x <;> simp [isScN] at h
 ·exact ⟨Go.undef, .inr rfl⟩
 ·exact ⟨_, .inl rfl⟩
def AllSc (rows : List (List V)) : Prop := ∀ i j x, cellAt rows i j = some x → ∃ u, x = .sc u ∨ x = .nils
theorem allSc_map {α : Type} {f : α → List V} {l : List α} (h : ∀ x, (f x).all isScN = true) : AllSc (l.map f) := fun i j x hx => by
 unfold cellAt at hx
 rw [List.getElem?_map] at hx
 cases hl : l[i]? with
 | none => simp [hl] at hx
 | some a =>
  simp only [hl, Option.map_some, Option.bind_some] at hx
  exact isScN_iff (List.all_eq_true.1 (h a) x (List.mem_of_getElem? hx))
theorem AllSc.free {rows : List (List V)} (h : AllSc rows) : AllFree rows := fun i j x hx => by
 obtain ⟨u, rfl | rfl⟩ := h i j x hx <;> rfl
section
variable {P : Program} {n : Nat} {T : Tm} {H : Hp} {o : Oper} {ops : Array Oper} {K : Lg → St → Prop} {rest : List Oper} {d : Nat}
theorem s_call {fop : Operand} {args : Array Operand} {tys : Array TypeId} {f : FuncId} {caps xs cargs : List V} {ins outs : List Entry} {r : V} {ns ks kb : List Nm} {v : V} {H' : Hp}
    (ho : o.op = .call { callee := .value fop, args := args, argTypes := tys }) (hf : (mkT n T H).ev fop = .fn f caps) (hc : callable P f = true) (hrun : Runs P f cargs ins r outs)
    (hx : args.toList.map (mkT n T H).ev ++ caps = xs) (hrel : ArgsR H ns kb xs cargs) (hins : insOf H ns ins) (hfr : ∀ E, E ∈ ins → AllFree E.rows) (hnd : ns.Nodup) (hkn : ∀ n, n ∈ kb → n ∉ ns)
    (hab : ∀ q E, (q, E) ∈ r.owns → lkH H (d, q) = none)
    (hmode : (ks = kb ∧ (∀ n, n ∈ kb → ∃ E, lkH H n = some (some E) ∧ E.mine = true) ∧ okResP (fun x => x.free = true) r ∧ (∀ q E, (q, E) ∈ r.owns → AllFree E.rows) ∧ (∀ E, E ∈ outs → AllFree E.rows)) ∨
      (ks = [] ∧ okResP (fun x => ∃ u, x = .sc u ∨ x = .nils) r ∧ (∀ q E, (q, E) ∈ r.owns → AllSc E.rows) ∧ (∀ E, E ∈ outs → AllSc E.rows)))
    (hv : r.mat d = v) (hH : r.owns.map (fun q => ((d, q.1), some q.2)) ++ outsH ns outs (ks.map (fun k => (k, none)) ++ H) = H')
    (hd : o.dst = some d) (hn : Nat.blt d n = true) (hg : wantA ops (mkT n T H) o = some true) (h : RegT P ops (kp K (ns ++ kb) (ns ++ ks)) rest (mkT n ((d, v) :: T) H')) : RegT P ops K (o :: rest) (mkT n T H) := by
  obtain ⟨hil, hig⟩ := insOf_get hins
  have hcb : CallBy P (mkT n T H) o d r ns ks kb outs := ⟨fop, args, tys, f, caps, cargs, ins, ho, hf, hc, hrun, hil, hnd, hig, hfr, hkn, by rw [hx]; exact hrel.len, by rw [hx]; exact hrel.get, hab, hmode⟩
  refine rt_step (StepE.call hd hcb) hg (by rw [hd]; exact decide_eq_true (by simpa [mkT, Nat.blt_eq] using hn)) ?_
  rw [hd, mkT_hp, retHp_lkH, mkT_put, hv, hH]
  exact h
end
end Go.Abs
