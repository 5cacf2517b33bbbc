/- The abstract layer, part 35: calls and ends of functions that hand on a list whose rows hold a list each. -/
import Derived.Test.YtbkmnbpgpklojaaDoorAbsA34
namespace Go.Abs
open Go

section
variable {α : Type} {n : Nat} {T T' : Tm} {H : Hp} {e : TypeId} {z a b a' b' : Nat} {f : Nm → α → List V} {g : α → Entry} {l : List α}

theorem rowsCv_fam {items : List Item} {D : List Nm} {N : Nm → Option Nat} (hcv : ∀ {src : Nm → Option Nm} {D : List Nm} {N : Nm → Option Nat} {m m' : Nm} (x : α), src m' = some m → CvL (lkH H) src D N (f m x) (f m' x)) :
    RowsCv (lkH H) (srcF items a' b' (l.map g).length (fun j => some (a, j + b))) D N (nr a f b l) (nr a' f b' l) :=
  rowsCv_nr (by rw [nr_len]; exact Nat.le_refl _) fun j y hy => ⟨f (a, j + b) y, nr_get hy, hcv y (srcF_at (by rw [List.length_map]; exact (List.getElem?_eq_some_iff.1 hy).1))⟩

def inFamAll (a b : Nat) (m : Nm) : Bool := match Nat.beq m.1 a with | true => Nat.ble b m.2 | false => false
def srcApart (a b : Nat) (l : List Item) : Bool := l.all fun q => match q.2.2 with | some m => !inFamAll a b m | none => true
theorem srcApart_of {items : List Item} (h : srcApart a b items = true) {j : Nat} {q : Item} (hq : q ∈ items) : q.2.2 ≠ some (a, j + b) := fun hs => by
  have := List.all_eq_true.1 h q hq
  rw [hs] at this
  have h1 : inFamAll a b (a, j + b) = true := by
    unfold inFamAll
    simp only [Nat.beq_refl]
    exact Nat.ble_eq_true_of_le (Nat.le_add_left ..)
  simp [h1] at this

theorem nest_end {P : Program} {rs : List ResultVar} {x : V} {xs : List V} (items : List Item) (own0 : List (Nat × Entry)) (hx : ResVs P (mkT n T H) rs xs)
    (hi : itemsX H (srcF items 2000 10000 (l.map g).length (fun j => some (a, j + b))) [] (nF items 2000 10000 (l.map g) (fun j => some (a, j + b))) items) (hap : itApart items = true) (hsa : srcApart a b items = true)
    (hno : ∀ i, lkH (itH items) (2000, i + 10000) = none) (hout : (items.all fun q => !inFam 2000 10000 (l.map g).length q.1) = true) (hf : ∀ j y, l[j]? = some y → lkH H (a, j + b) = some (some (g y))) (hgf : ∀ x, AllFree (g x).rows) (hgz : ∀ x r, r ∈ (g x).rows → r.length = (g x).z)
    (hb : ∀ j, lkH H (1000, j) = none) (hh : own0.map (fun q => ((2000, q.1), some q.2)) = itH items)
    (hv : Cv (lkH H) (srcF items 2000 10000 (l.map g).length (fun j => some (a, j + b))) [] (nF items 2000 10000 (l.map g) (fun j => some (a, j + b))) (resOne xs) x) :
    EndG P rs x (own0 ++ famO 10000 (l.map g)) [] (mkT n T H) := by
  refine ⟨_, hx, srcF items 2000 10000 (l.map g).length (fun j => some (a, j + b)), [], nF items 2000 10000 (l.map g) (fun j => some (a, j + b)), ?_, hv⟩
  refine re_fam hi trivial hap ⟨fun j E' hE' => ?_, fun j j' m _ _ h3 h4 => ?_, fun j m hj h q hq => ?_, hout, fun j h => absurd (hb j) h⟩ ?_
  · rw [List.getElem?_map] at hE'
    obtain ⟨y, hy, rfl⟩ := Option.map_eq_some_iff.1 hE'
    exact ⟨by simp, g y, hf j y hy, rfl, rfl, rfl, id, rowsCv_eq rfl (hgf y), hgz y⟩
  · have := (Option.some.inj h3).trans (Option.some.inj h4).symm
    simp only [Prod.mk.injEq, true_and] at this; omega
  · have h : (a, j + b) = m := Option.some.inj h
    rw [← h]; exact srcApart_of hsa hq
  · show addOwns 2000 (own0 ++ famO 10000 (l.map g)) (argHp []) = _
    have e0 : argHp [] = lkH [] := by funext m; unfold argHp; simp [lkH]
    rw [e0, addOwns_lkH, List.map_append, famO_map, hh, List.append_assoc]
    have := lk_comm (d := 2000) (b := 10000) (Es := l.map g) (H := itH items) (R := []) (fun i _ => by rw [List.append_nil]; exact hno i)
    rw [this, List.append_nil]
end

section
variable {P : Program} {n : Nat} {T : Tm} {H : Hp} {o : Oper} {ops : Array Oper} {K : Lg → St → Prop} {rest : List Oper} {d : Nat}
/-- A call whose result owns a list of rows with lists: the rows' lists stand behind all else. -/
theorem s_callRt {α : Type} {g : α → Entry} {l : List α} {fop : Operand} {args : Array Operand} {tys : Array TypeId} {f : FuncId} {caps xs cargs : List V} {x y : V} {os os' : List (Nat × Entry)} {b : Nat} {kb : List Nm}
    (ho : o.op = .call { callee := .value fop, args := args, argTypes := tys }) (hf : (mkT n T H).ev fop = .fn f caps) (hc : callable P f = true) (hrun : RunsG P f cargs [] x (os ++ famO b (l.map g)) [])
    (hx : args.toList.map (mkT n T H).ev ++ caps = xs) (hrel : ArgsR H [] kb xs cargs) (hos : OwnsR d [] (os' ++ famO b (l.map g)) isSc os os') (hgs : ∀ x, AllSc (g x).rows) (hgz : ∀ x r, r ∈ (g x).rows → r.length = (g x).z) (hr : RetRel d [] (os' ++ famO b (l.map g)) isSc x y)
    (hab : ∀ q E, (q, E) ∈ os' → lkH H (d, q) = none) (habF : ∀ i, lkH H (d, i + b) = none)
    (hd : o.dst = some d) (hn : Nat.blt d n = true) (hg : wantA ops (mkT n T H) o = some true) (h : RegT P ops (kp K kb []) rest (mkT n ((d, y) :: T) (os'.map (fun q => ((d, q.1), some q.2)) ++ (H ++ (fam d b (l.map g) ++ []))))) : RegT P ops K (o :: rest) (mkT n T H) := by
  refine s_callR ho hf hc hrun hx hrel hos (fun E hE => ?_) hr hab (fun i _ => habF i) ?_ hd hn hg h
  · obtain ⟨x, -, rfl⟩ := List.mem_map.1 hE
    exact ⟨hgs x, hgz x⟩
  · have h1 := lk_comm (d := d) (b := b) (Es := l.map g) (H := H) (R := []) (fun i _ => by rw [List.append_nil]; exact habF i)
    rw [List.append_nil H] at h1
    funext m
    have : ∀ (A : Hp) {B C : Hp}, lkH B = lkH C → lkH (A ++ B) = lkH (A ++ C) := fun A {B C} hBC => by
      induction A with
      | nil => exact hBC
      | cons p A ih => obtain ⟨k, e⟩ := p; funext m; rw [List.cons_append, List.cons_append, lkH_cons, lkH_cons, ih]
    rw [this _ h1]
end
end Go.Abs
