/- The abstract layer, part A23. -/
import Derived.Test.YtainnoaellcpdaaGreatDoorAbsA22
namespace Go.Abs
open Go
theorem relFree {hp : Heap} {ns kb : List Nm} {xs : List V} (h : xs.all (·.free) = true) : ∀ (i : Nat) x y, xs[i]? = some x → xs[i]? = some y → ArgRel hp ns kb x y := fun i x y hx hy => by
 rw [hx] at hy; cases hy
 exact .free (List.all_eq_true.1 h x (List.mem_of_getElem? hx))
theorem relFn {hp : Heap} {ns kb : List Nm} {f : FuncId} {xs : List V} (h : xs.all (·.free) = true) : ArgRel hp ns kb (.fn f xs) (.fn f xs) := .fn rfl (relFree h)
theorem relFn0 {hp : Heap} {ns kb : List Nm} {f : FuncId} : ArgRel hp ns kb (.fn f []) (.fn f []) := .fn rfl fun i a b ha => by simp at ha
theorem argsFree {H : Hp} {ns kb : List Nm} : ∀ {xs : List V}, xs.all (·.free) = true → ArgsR H ns kb xs xs
 | [], _ => .nil
 | x :: xs, h => by
  simp only [List.all_cons, Bool.and_eq_true] at h
  exact .cons (.free h.1) (argsFree h.2)
theorem cvFn {hp : Heap} {src : Nm → Option Nm} {D : List Nm} {N : Nm → Option Nat} {f : FuncId} {xs : List V} (h : xs.all (·.free) = true) : Cv hp src D N (.fn f xs) (.fn f xs) :=
 .fn rfl fun i x y hx hy => by
  rw [hx] at hy; cases hy
  exact .free (List.all_eq_true.1 h x (List.mem_of_getElem? hx))
section
variable {P : Program} {n : Nat} {T : Tm} {H : Hp} {o : Oper} {ops : Array Oper} {K : Lg → St → Prop} {rest : List Oper} {d : Nat}
end
end Go.Abs
