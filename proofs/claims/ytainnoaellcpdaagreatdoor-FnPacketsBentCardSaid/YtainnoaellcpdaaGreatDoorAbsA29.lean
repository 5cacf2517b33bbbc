/- The abstract layer, part A29. -/
import Derived.Test.YtainnoaellcpdaaGreatDoorAbsA28
namespace Go.Abs
open Go
section
variable {P : Program} {n : Nat} {T : Tm} {H : Hp} {o : Oper} {ops : Array Oper} {K : Lg → St → Prop} {rest : List Oper} {d : Nat}
end
theorem rowsCv_pre {hp : Heap} {src : Nm → Option Nm} {D : List Nm} {N : Nm → Option Nat} {α : Type} {f : α → List V} {l : List α} {o k : Nat} (ho : o = 0) (h : ∀ x, (f x).all (·.free) = true) : RowsCv hp src D N (l.map f) (((l.drop o).take k).map f) := by
 subst ho
 rw [List.drop_zero, List.map_take]
 refine ⟨by simp [List.length_take]; omega, fun i j y hy => ?_⟩
 have h2 : cellAt (l.map f) i j = some y := by
  unfold cellAt at hy ⊢
  rw [List.getElem?_take] at hy
  split at hy
  ·exact hy
  ·simp at hy
 exact ⟨y, h2, .free (allFree_map h i j y h2)⟩
theorem cvRefPre {hp : Heap} {src : Nm → Option Nm} {D : List Nm} {N : Nm → Option Nat} {n m : Nm} {off len len' : Nat} (h : src n = some m) (ho : off = 0) (e : len = len') : Cv hp src D N (.ref m off len) (.ref n 0 len') := by
 subst e; subst ho; exact .ref h
end Go.Abs
