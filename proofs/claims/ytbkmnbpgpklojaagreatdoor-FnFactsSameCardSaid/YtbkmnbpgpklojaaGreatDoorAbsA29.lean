/- The abstract layer, part A29. -/
import Derived.Test.YtbkmnbpgpklojaaGreatDoorAbsA28
namespace Go.Abs
open Go
section
variable {P : Program} {n : Nat} {T : Tm} {H : Hp} {o : Oper} {ops : Array Oper} {K : Lg → St → Prop} {rest : List Oper} {d : Nat}
def namesNew (H H' : Hp) (d : Nat) : List Nm → Prop
 | [] => True
 | k :: D => (k.1 = d ∧ lkH H k = none ∧ ∃ E, lkH H' k = some (some E) ∧ E.mine = true) ∧ namesNew H H' d D
theorem namesNew_mem {H H' : Hp} {d : Nat} {D : List Nm} (h : namesNew H H' d D) : ∀ k, k ∈ D → k.1 = d ∧ lkH H k = none ∧ ∃ E, lkH H' k = some (some E) ∧ E.mine = true := fun k hk => by
 induction D with
 | nil => cases hk
 | cons q D ih =>
  cases hk with
  | head => exact h.1
  | tail _ hk => exact ih h.2 hk
theorem s_callNF {fop : Operand} {args : Array Operand} {tys : Array TypeId} {f : FuncId} {caps xs cargs : List V} {ins outs : List Entry} {r v v' : V} {H' : Hp} {ns kb D : List Nm}
  (ho : o.op = .call { callee := .value fop, args := args, argTypes := tys }) (hf : (mkT n T H).ev fop = .fn f caps) (hc : callable P f = true) (hrun : Runs P f cargs ins r outs)
  (hx : args.toList.map (mkT n T H).ev ++ caps = xs) (hrel : ArgsR H ns kb xs cargs) (hins : insOf H ns ins) (hfr : ∀ E, E ∈ ins → AllFree E.rows) (hnd : ns.Nodup) (hkn : ∀ n, n ∈ kb → n ∉ ns)
  (hr : okScR r = true) (hrs : ownsSc r.owns) (ho' : ∀ E, E ∈ outs → AllSc E.rows) (hab : (r.owns.all fun q => (lkH H (d, q.1)).isNone) = true)
  (hv : r.mat d = v) (hH : r.owns.map (fun q => ((d, q.1), some q.2)) ++ outsH ns outs H = H') (hD : namesNew H H' d D) (hz : ArgRel (lkH H') [] D v v')
  (hd : o.dst = some d) (hn : Nat.blt d n = true) (hg : wantA ops (mkT n T H) o = some true) (h : RegT P ops (kp K (ns ++ kb) ns) rest (mkT n ((d, v') :: T) (D.map (fun k => (k, none)) ++ H'))) : RegT P ops K (o :: rest) (mkT n T H) := by
 have hab' : ∀ q E, (q, E) ∈ r.owns → lkH H (d, q) = none := fun q E hq => by
  have := List.all_eq_true.1 hab _ hq
  cases hl : lkH H (d, q) with
  | none => rfl
  | some e => simp only [hl] at this; cases this
 obtain ⟨hil, hig⟩ := insOf_get hins
 have hcb : CallBy P (mkT n T H) o d r ns [] kb outs := ⟨fop, args, tys, f, caps, cargs, ins, ho, hf, hc, hrun, hil, hnd, hig, hfr, hkn, by rw [hx]; exact hrel.len, by rw [hx]; exact hrel.get, hab', .inr ⟨rfl, okScR_p hr, ownsSc_mem hrs, ho'⟩⟩
 have e : retHp (mkT n T H).hp ns [] outs d r = lkH H' := by rw [mkT_hp, retHp_lkH]; simp only [List.map_nil, List.nil_append]; rw [hH]
 refine rt_step (StepE.frz hd (StepE.call hd hcb) (D := D) (v' := v') (fun k hk => by rw [e]; exact namesNew_mem hD k hk) (by rw [e, hv]; exact hz)) hg (by rw [hd]; exact decide_eq_true (by simpa [mkT, Nat.blt_eq] using hn)) ?_
 rw [hd, e, killAll_lkH, mkT_put, List.append_nil]
 exact h
end
theorem rowsCv_pre {hp : Heap} {src : Nm → Option Nm} {D : List Nm} {N : Nm → Option Nat} {α : Type} {f : α → List V} {l : List α} {o k : Nat} (ho : o = 0) (h : ∀ x, (f x).all (·.free) = true) : RowsCv hp src D N (l.map f) (((l.drop o).take k).map f) := by
 subst ho
 rw [List.drop_zero, List.map_take]
 refine ⟨by simp [List.length_take]; omega, fun i j y hy => ?_⟩
 have h2 : cellAt (l.map f) i j = some y := by
  unfold cellAt at hy ⊢
  rw [List.getElem?_take] at hy
  split at hy
  ·exact hy
  ·simp at hy
 exact ⟨y, h2, .free (allFree_map h i j y h2)⟩
theorem cvRefPre {hp : Heap} {src : Nm → Option Nm} {D : List Nm} {N : Nm → Option Nat} {n m : Nm} {off len len' : Nat} (h : src n = some m) (ho : off = 0) (e : len = len') : Cv hp src D N (.ref m off len) (.ref n 0 len') := by
 subst e; subst ho; exact .ref h
end Go.Abs
