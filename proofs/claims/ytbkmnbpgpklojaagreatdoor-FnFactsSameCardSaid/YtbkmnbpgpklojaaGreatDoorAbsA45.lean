/- The abstract layer, part A45. -/
import Derived.Test.YtbkmnbpgpklojaaGreatDoorAbsA37
namespace Go.Abs
open Go
inductive RtL (d : Nat) (ns : List Nm) (own : List (Nat × Entry)) (p : V → Prop) : List V → List V → Prop where
 | nil : RtL d ns own p [] []
 | cons {x y : V} {xs ys : List V} (h : RetRel d ns own p x y) (t : RtL d ns own p xs ys) : RtL d ns own p (x :: xs) (y :: ys)
inductive RtR (d : Nat) (ns : List Nm) (own : List (Nat × Entry)) (p : V → Prop) : List (List V) → List (List V) → Prop where
 | nil : RtR d ns own p [] []
 | cons {x y : List V} {xs ys : List (List V)} (h : RtL d ns own p x y) (t : RtR d ns own p xs ys) : RtR d ns own p (x :: xs) (y :: ys)
abbrev frV (x : V) : Prop := x.free = true
section
variable {d : Nat} {ns : List Nm} {own : List (Nat × Entry)} {p : V → Prop}
theorem RtL.len {xs ys : List V} (h : RtL d ns own p xs ys) : xs.length = ys.length := by
 induction h with
 | nil => rfl
 | cons _ _ ih => simp [ih]
theorem RtL.get {xs ys : List V} (h : RtL d ns own p xs ys) : ∀ (i : Nat) x y, xs[i]? = some x → ys[i]? = some y → RetRel d ns own p x y := by
 induction h with
 | nil => intro i x y hx; simp at hx
 | cons h _ ih =>
  intro i x y hx hy
  cases i with
  | zero => simp at hx hy; subst hx hy; exact h
  | succ i => exact ih i x y (by simpa using hx) (by simpa using hy)
theorem RtL.agg {xs ys : List V} (h : RtL d ns own p xs ys) : RetRel d ns own p (.agg xs) (.agg ys) := .agg h.len h.get
theorem RtR.len {xs ys : List (List V)} (h : RtR d ns own p xs ys) : xs.length = ys.length := by
 induction h with
 | nil => rfl
 | cons _ _ ih => simp [ih]
theorem RtR.cell {xs ys : List (List V)} (h : RtR d ns own p xs ys) : ∀ (i j : Nat) y, cellAt ys i j = some y → ∃ x, cellAt xs i j = some x ∧ RetRel d ns own p x y := by
 induction h with
 | nil => intro i j y hy; simp [cellAt] at hy
 | @cons r r' xs ys h t ih =>
  intro i j y hy
  cases i with
  | zero =>
   have hy : r'[j]? = some y := hy
   have hlt : j < r.length := by rw [h.len]; exact (List.getElem?_eq_some_iff.1 hy).1
   exact ⟨r[j], by show r[j]? = _; exact List.getElem?_eq_getElem hlt, h.get j _ y (List.getElem?_eq_getElem hlt) hy⟩
  | succ i => exact ih i j y hy
theorem rtFr {x : V} (h : x.free = true) : RetRel d ns own frV x x := .keep h
theorem outRt {e : TypeId} {z : Nat} {rows rows' : List (List V)} {s m m' : Bool} (h : RtR d ns own p rows rows') (hz : (rows'.all fun r => Nat.beq r.length z) = true) : OutRel d ns own p ⟨e, z, rows, s, m⟩ ⟨e, z, rows', s, m'⟩ :=
 ⟨rfl, rfl, rfl, h.len.symm, fun r hr => Nat.eq_of_beq_eq_true (List.all_eq_true.1 hz r hr), h.cell⟩
theorem outFr {e : TypeId} {z : Nat} {rows : List (List V)} {s m m' : Bool} (h : AllFree rows) (hz : ∀ r, r ∈ rows → r.length = z) : OutRel d ns own frV ⟨e, z, rows, s, m⟩ ⟨e, z, rows, s, m'⟩ :=
 ⟨rfl, rfl, rfl, rfl, hz, fun i j y hy => ⟨y, hy, .keep (h i j y hy)⟩⟩
inductive OwnsL (d : Nat) (ns : List Nm) (own : List (Nat × Entry)) (p : V → Prop) : List (Nat × Entry) → List (Nat × Entry) → Prop where
 | nil : OwnsL d ns own p [] []
 | cons {q : Nat} {E E' : Entry} {os os' : List (Nat × Entry)} (h : OutRel d ns own p E E') (hm : E'.mine = true → E.mine = true) (t : OwnsL d ns own p os os') : OwnsL d ns own p ((q, E) :: os) ((q, E') :: os')
theorem OwnsL.lookup {os os' : List (Nat × Entry)} (h : OwnsL d ns own p os os') (q : Nat) : ∀ E', os'.lookup q = some E' → ∃ E, os.lookup q = some E ∧ OutRel d ns own p E E' ∧ (E'.mine = true → E.mine = true) := by
 induction h with
 | nil => intro E' h; cases h
 | @cons q' E E' os os' h hm t ih =>
  rw [List.lookup_cons, List.lookup_cons]
  cases hb : q == q' with
  | true => intro E1 h1; cases h1; exact ⟨E, rfl, h, hm⟩
  | false => exact ih
end
section
variable {P : Program} {n : Nat} {T : Tm} {H : Hp} {o : Oper} {ops : Array Oper} {K : Lg → St → Prop} {rest : List Oper} {d : Nat}
theorem frZ1 {row : List V} {z : Nat} (h : row.all (·.free) = true) (hz : row.length = z) : AllFree [row] ∧ ∀ r, r ∈ [row] → r.length = z := ⟨allFree_one h, rowsZ_one hz⟩
theorem insG_of {ns kb : List Nm} : ∀ {ms : List Nm} {ins : List Entry}, insOf H ms ins → (∀ E, E ∈ ins → AllFree E.rows ∧ ∀ r, r ∈ E.rows → r.length = E.z) → ins.length = ms.length ∧ ∀ (i : Nat) m, ms[i]? = some m → ∃ E' E, lkH H m = some (some E') ∧ ins[i]? = some E ∧ InsRel (lkH H) ns kb E' E
 | [], [], _, _ => ⟨rfl, fun i m h => by simp at h⟩
 | m :: ms, E :: ins, h, hf => by
  obtain ⟨⟨E', h1, h2⟩, h3⟩ := h
  obtain ⟨g1, g2⟩ := insG_of (ns := ns) (kb := kb) h3 fun E hE => hf E (.tail _ hE)
  refine ⟨by simp [g1], fun i k hk => ?_⟩
  cases i with
  | zero =>
   simp only [List.getElem?_cons_zero, Option.some.injEq] at hk
   subst hk; subst h2
   obtain ⟨h4, h5⟩ := hf _ (.head _)
   exact ⟨E', _, h1, rfl, rfl, rfl, rfl, rfl, rfl, h5, fun i j y hy => ⟨y, hy, .free (h4 i j y hy)⟩⟩
  | succ i => exact g2 i k (by simpa using hk)
 | [], _ :: _, h, _ => h.elim
 | _ :: _, [], h, _ => h.elim
theorem s_callL {fop : Operand} {args : Array Operand} {tys : Array TypeId} {f : FuncId} {caps xs cargs : List V} {x y : V} {ins outs : List Entry} {os os' : List (Nat × Entry)} {ns : List Nm} {H' : Hp}
    (ho : o.op = .call { callee := .value fop, args := args, argTypes := tys }) (hf : (mkT n T H).ev fop = .fn f caps) (hc : callable P f = true) (hrun : RunsG P f cargs ins x os outs)
    (hx : args.toList.map (mkT n T H).ev ++ caps = xs) (hrel : ArgsR H ns [] xs cargs) (hins : insOf H ns ins) (hif : ∀ E, E ∈ ins → AllFree E.rows ∧ ∀ r, r ∈ E.rows → r.length = E.z) (hnd : ns.Nodup)
    (hos : OwnsL d ns os' frV os os') (hr : RetRel d ns os' frV x y) (hou : ∀ E, E ∈ outs → AllFree E.rows ∧ ∀ r, r ∈ E.rows → r.length = E.z) (hab : (os'.all fun q => (lkH H (d, q.1)).isNone) = true)
    (hH : os'.map (fun q => ((d, q.1), some q.2)) ++ outsH ns outs H = H')
    (hd : o.dst = some d) (hn : Nat.blt d n = true) (hg : wantA ops (mkT n T H) o = some true) (h : RegT P ops (kp K (ns ++ []) (ns ++ [])) rest (mkT n ((d, y) :: T) H')) : RegT P ops K (o :: rest) (mkT n T H) := by
  obtain ⟨g1, g2⟩ := insG_of (ns := ns) (kb := []) hins hif
  have hcb : CallByG P (mkT n T H) o d y os' ns [] [] outs := ⟨fop, args, tys, f, caps, cargs, ins, outs, x, os, frV, ho, hf, hc, hrun, g1, rfl, hnd, g2, (fun _ h => by cases h), (by rw [hx]; exact hrel.len), (by rw [hx]; exact hrel.get),
    (fun q E hq => by have := List.all_eq_true.1 hab _ hq; simpa using this), hr, hos.lookup, (fun i E' hE => ⟨E', hE, outFr (m := E'.mine) (m' := E'.mine) (hou E' (List.mem_of_getElem? hE)).1 (hou E' (List.mem_of_getElem? hE)).2⟩), .inl ⟨rfl, (fun _ h => by cases h), fun _ h => h⟩⟩
  refine rt_step (StepE.callG hd hcb) hg (by rw [hd]; exact decide_eq_true (by simpa [mkT, Nat.blt_eq] using hn)) ?_
  have e : retHpG (mkT n T H).hp ns [] outs d os' = lkH H' := by
    unfold retHpG
    rw [mkT_hp, killAll_lkH, setOuts_lkH, addOwns_lkH, ← hH]
    simp only [List.map_nil, List.nil_append]
  rw [hd, e, mkT_put]
  exact h
theorem endGl {rs : List ResultVar} {x : V} {own : List (Nat × Entry)} {outs : List Entry} {xs : List V} (l : List Item) (D : List Nm) (hx : ResVs P (mkT n T H) rs xs) (hl : itemsX H (itSrc l) D (itN l) l) (hD : dropsOk H D) (ha : itApart l = true) (hb : itBase H l = true)
    (hh : own.map (fun q => ((2000, q.1), some q.2)) ++ outsL 0 outs = itH l) (hv : Cv (lkH H) (itSrc l) D (itN l) (resOne xs) x) : EndG P rs x own outs (mkT n T H) :=
  ⟨xs, hx, itSrc l, D, itN l, re_itemsX hl hD ha hb (by
    have : argHp outs = lkH (outsL 0 outs) := by
      funext m; rw [outsL_lk]; unfold argHp; by_cases h : m.1 = 1000 <;> simp [h]
    rw [this, addOwns_lkH, hh]), hv⟩
theorem cvFrR {src : Nm → Option Nm} {D : List Nm} {N : Nm → Option Nat} {nm : Nm} {e : TypeId} {z len : Nat} {rows rows' : List (List V)} {s mi : Bool} (hn : lkH H nm = some (some ⟨e, z, rows, s, mi⟩)) (hk : nm ∈ D) (hl : len = rows'.length) (hr : RowsCv (lkH H) src D N rows rows') (hf : AllFree rows') (hz : ∀ r, r ∈ rows' → r.length = z) :
    Cv (lkH H) src D N (.ref nm 0 len) (.lst z rows') :=
  .refLst (E := ⟨e, z, rows, s, mi⟩) hn hk (by have := hr.1; simp only; omega) hl.symm hz (fun i j => (cellAt rows i j).getD .undef) (fun i j y hy => by
    obtain ⟨x, hx, -⟩ := hr.2 i j y hy
    rw [Nat.zero_add, hx]; rfl) (fun i j y hy => by
    obtain ⟨x, hx, h⟩ := hr.2 i j y hy
    rw [hx]; exact h) hf
end
end Go.Abs
