/- The abstract layer, part A24. -/
import Derived.Test.YtbkmnbpgpklojaaGreatDoorAbsA23
namespace Go.Abs
open Go
def okScC : V → Bool
 | .own _ _ _ | .obox _ _ => true
 | x => isScN x
def okSc1 : V → Bool
 | .agg xs => xs.all okScC
 | x => okScC x
def okScR : V → Bool
 | .tup xs => xs.all okSc1
 | x => okSc1 x
def ownsSc : List (Nat × Entry) → Prop
 | [] => True
 | q :: l => AllSc q.2.rows ∧ ownsSc l
theorem ownsSc_mem {l : List (Nat × Entry)} (h : ownsSc l) : ∀ q E, (q, E) ∈ l → AllSc E.rows := fun q E hq => by
 induction l with
 | nil => cases hq
 | cons p l ih =>
  cases hq with
  | head => exact h.1
  | tail _ hq => exact ih h.2 hq
theorem okScC_p {x : V} (h : okScC x = true) : okCellP (fun x => ∃ u, x = .sc u ∨ x = .nils) x := by
 cases x <;> first | trivial | exact isScN_iff h
theorem okSc1_p : ∀ {x : V}, okSc1 x = true → ok1P (fun x => ∃ u, x = .sc u ∨ x = .nils) x
 | .agg xs, h => fun y hy => okScC_p (List.all_eq_true.1 h y hy)
 | .undef, h => by cases h
 | .nils, _ => ⟨Go.undef, .inr rfl⟩
 | .sc u, _ => ⟨u, .inl rfl⟩
 | .tup _, h => by cases h
 | .lst _ _, h => by cases h
 | .own _ _ _, _ => trivial
 | .obox _ _, _ => trivial
 | .ref _ _ _, h => by cases h
 | .ptr _ _ _, h => by cases h
 | .lptr _ _ _ _, h => by cases h
 | .fn _ _, h => by cases h
theorem okScR_p : ∀ {x : V}, okScR x = true → okResP (fun x => ∃ u, x = .sc u ∨ x = .nils) x
 | .tup xs, h => fun y hy => okSc1_p (List.all_eq_true.1 h y hy)
 | .agg xs, h => okSc1_p (x := .agg xs) h
 | .undef, h => by cases h
 | .nils, _ => ⟨Go.undef, .inr rfl⟩
 | .sc u, _ => ⟨u, .inl rfl⟩
 | .lst _ _, h => by cases h
 | .own _ _ _, _ => trivial
 | .obox _ _, _ => trivial
 | .ref _ _ _, h => by cases h
 | .ptr _ _ _, h => by cases h
 | .lptr _ _ _ _, h => by cases h
 | .fn _ _, h => by cases h
inductive CvL (hp : Heap) (src : Nm → Option Nm) (D : List Nm) (N : Nm → Option Nat) : List V → List V → Prop where
 | nil : CvL hp src D N [] []
 | cons {x y : V} {xs ys : List V} (h : Cv hp src D N x y) (t : CvL hp src D N xs ys) : CvL hp src D N (x :: xs) (y :: ys)
theorem CvL.agg {hp : Heap} {src : Nm → Option Nm} {D : List Nm} {N : Nm → Option Nat} {xs ys : List V} (h : CvL hp src D N xs ys) : Cv hp src D N (.agg xs) (.agg ys) := by
 have hl : xs.length = ys.length := by
  induction h with
  | nil => rfl
  | cons _ _ ih => simp [ih]
 refine .agg hl ?_
 clear hl
 induction h with
 | nil => intro i x y hx; simp at hx
 | cons h _ ih =>
  intro i x y hx hy
  cases i with
  | zero => simp at hx hy; subst hx hy; exact h
  | succ i => exact ih i x y (by simpa using hx) (by simpa using hy)
section
variable {P : Program} {n : Nat} {T : Tm} {H : Hp} {o : Oper} {ops : Array Oper} {K : Lg → St → Prop} {rest : List Oper} {d : Nat}
theorem relAggL {H : Hp} {ns kb : List Nm} {xs ys : List V} (h : ArgsR H ns kb xs ys) : ArgRel (lkH H) ns kb (.agg xs) (.agg ys) := .agg h.len h.get
end
end Go.Abs
