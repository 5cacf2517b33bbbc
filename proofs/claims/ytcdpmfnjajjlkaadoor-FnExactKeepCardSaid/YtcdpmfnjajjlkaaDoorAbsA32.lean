/- The abstract layer, part 32: the end of a list is cleared; results that are a list handed over to be written. -/
import Derived.Test.YtcdpmfnjajjlkaaDoorAbsA31
namespace Go.Abs
open Go

section
variable {P : Program} {n : Nat} {T : Tm} {H : Hp} {o : Oper} {ops : Array Oper} {K : Lg → St → Prop} {rest : List Oper} {d : Nat}
theorem s_clear {α : Type} {f : α → List V} {l : List α} {t e e' : TypeId} {z by_ off len k : Nat} {x : Operand} {nm : Nm} {zs : List Value} {s mi : Bool} (ho : o.op = .call { callee := .builtin .clear, args := #[x], argTypes := #[t] }) (hx : (mkT n T H).ev x = .ref nm off len) (hE : lkH H nm = some (some ⟨e', z, l.map f, s, mi⟩))
    (ht : slTy P t = some (e, z, by_)) (hz : zeroC P e = some zs) (hzl : zs.length = z) (h1 : zs.all (·.oneCell') = true) (hl : off + len = l.length) (hk : off = k) (hd : o.dst = none) (hg : wantA ops (mkT n T H) o = some true)
    (h : RegT P ops (kp K [nm] [nm]) rest (mkT n T ((nm, some ⟨e', z, (l.take k).map f, s, mi⟩) :: H))) : RegT P ops K (o :: rest) (mkT n T H) := by
  subst hk
  refine rt_step (StepE.clear (P := P) ho hx hE ht hz hzl rfl h1 (by rw [List.length_map]; exact hl)) hg (by rw [hd]; rfl) ?_
  rw [hd, mkT_hp, upd_lkH]
  have : ({ (mkT n T H).put none (.tup []) with hp := lkH ((nm, some { (⟨e', z, l.map f, s, mi⟩ : Entry) with rows := (l.map f).take off }) :: H) } : St) = mkT n T ((nm, some ⟨e', z, (l.take off).map f, s, mi⟩) :: H) := by
    unfold mkT; rw [← List.map_take]; rfl
  rw [this]; exact h

theorem endG0 {rs : List ResultVar} {x : V} {outs : List Entry} {xs : List V} (l : List Item) (D : List Nm) (hx : ResVs P (mkT n T H) rs xs) (hl : itemsX H (itSrc l) D (itN l) l) (hD : dropsOk H D) (ha : itApart l = true) (hb : itBase H l = true)
    (hh : outsL 0 outs = itH l) (hv : Cv (lkH H) (itSrc l) D (itN l) (resOne xs) x) : EndG P rs x [] outs (mkT n T H) :=
  ⟨xs, hx, itSrc l, D, itN l, re_itemsX hl hD ha hb (by
    have : addOwns 2000 [] (argHp outs) = lkH (outsL 0 outs) := by
      funext m; rw [outsL_lk]; unfold addOwns argHp; by_cases h : m.1 = 1000 <;> simp [h]
    rw [this, hh]), hv⟩

theorem outFree {d : Nat} {ns : List Nm} {own : List (Nat × Entry)} {E : Entry} (h : AllFree E.rows) (hz : ∀ r, r ∈ E.rows → r.length = E.z) : OutRel d ns own (fun x => x.free = true) E E :=
  ⟨rfl, rfl, rfl, rfl, hz, fun i j y hy => ⟨y, hy, .keep (h i j y hy)⟩⟩
theorem insOf_rel {ns kb : List Nm} {ms : List Nm} {ins : List Entry} (h : insOf H ms ins) (hf : ∀ E, E ∈ ins → AllFree E.rows ∧ ∀ r, r ∈ E.rows → r.length = E.z) : InsL H ns kb ms ins := by
  induction ms generalizing ins with
  | nil => cases ins with | nil => exact .nil | cons _ _ => exact h.elim
  | cons m ms ih =>
    cases ins with
    | nil => exact h.elim
    | cons E ins =>
      obtain ⟨⟨E', h1, h2⟩, h3⟩ := h
      subst h2
      obtain ⟨h4, h5⟩ := hf _ (.head _)
      exact .cons h1 ⟨rfl, rfl, rfl, rfl, rfl, h5, fun i j y hy => ⟨y, hy, .free (h4 i j y hy)⟩⟩ (ih h3 fun E hE => hf E (.tail _ hE))
/-- A call that writes lists and hands one of them back; it lets go of what it is lent. -/
theorem s_callP {fop : Operand} {args : Array Operand} {tys : Array TypeId} {f : FuncId} {caps xs cargs : List V} {x y : V} {ins outs : List Entry} {ns kb : List Nm} {H' : Hp}
    (ho : o.op = .call { callee := .value fop, args := args, argTypes := tys }) (hf : (mkT n T H).ev fop = .fn f caps) (hc : callable P f = true) (hrun : RunsG P f cargs ins x [] outs)
    (hx : args.toList.map (mkT n T H).ev ++ caps = xs) (hrel : ArgsR H ns kb xs cargs) (hins : insOf H ns ins) (hif : ∀ E, E ∈ ins → AllFree E.rows ∧ ∀ r, r ∈ E.rows → r.length = E.z) (hnd : ns.Nodup) (hkn : ∀ n, n ∈ kb → n ∉ ns) (hmine : dropsOk H kb)
    (hr : RetRel d ns [] (fun x => x.free = true) x y) (hou : ∀ E, E ∈ outs → AllFree E.rows ∧ ∀ r, r ∈ E.rows → r.length = E.z) (hH : outsH ns outs (kb.map (fun k => (k, none)) ++ H) = H')
    (hd : o.dst = some d) (hn : Nat.blt d n = true) (hg : wantA ops (mkT n T H) o = some true) (h : RegT P ops (kp K (ns ++ kb) (ns ++ kb)) rest (mkT n ((d, y) :: T) H')) : RegT P ops K (o :: rest) (mkT n T H) := by
  have hI := insOf_rel (ns := ns) (kb := kb) hins hif
  have hcb : CallByG P (mkT n T H) o d y [] ns kb kb outs := ⟨fop, args, tys, f, caps, cargs, ins, outs, x, [], fun x => x.free = true, ho, hf, hc, hrun, hI.len, rfl, hnd, hI.get, hkn, (by rw [hx]; exact hrel.len), (by rw [hx]; exact hrel.get),
    (fun q E hq => by cases hq), hr, (fun q E h => by simp at h), (fun i E' hE => ⟨E', hE, outFree (hou E' (List.mem_of_getElem? hE)).1 (hou E' (List.mem_of_getElem? hE)).2⟩), .inl ⟨rfl, fun n hn => dropsOk_mem hmine hn, fun _ h => h⟩⟩
  refine rt_step (StepE.callG hd hcb) hg (by rw [hd]; exact decide_eq_true (by simpa [mkT, Nat.blt_eq] using hn)) ?_
  have e : retHpG (mkT n T H).hp ns kb outs d [] = lkH H' := by
    unfold retHpG
    rw [mkT_hp, killAll_lkH, setOuts_lkH, addOwns_lkH, ← hH]
    simp only [List.map_nil, List.nil_append]
  rw [hd, e, mkT_put]
  exact h
end
theorem freeZ_map {α : Type} {f : α → List V} {l : List α} {z : Nat} (h : ∀ x, (f x).all (·.free) = true) (hz : ∀ x, (f x).length = z) : AllFree (l.map f) ∧ ∀ r, r ∈ l.map f → r.length = z := ⟨allFree_map h, rowsZ_map hz⟩
theorem freeZ_one {row : List V} {z : Nat} (h : row.all (·.free) = true) (hz : row.length = z) : AllFree [row] ∧ ∀ r, r ∈ [row] → r.length = z := ⟨allFree_one h, rowsZ_one hz⟩
end Go.Abs
