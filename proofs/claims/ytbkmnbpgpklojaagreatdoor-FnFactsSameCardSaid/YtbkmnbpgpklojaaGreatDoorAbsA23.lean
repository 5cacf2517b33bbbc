/- The abstract layer, part A23. -/
import Derived.Test.YtbkmnbpgpklojaaGreatDoorAbsA22
namespace Go.Abs
open Go
theorem relFree {hp : Heap} {ns kb : List Nm} {xs : List V} (h : xs.all (·.free) = true) : ∀ (i : Nat) x y, xs[i]? = some x → xs[i]? = some y → ArgRel hp ns kb x y := fun i x y hx hy => by
 rw [hx] at hy; cases hy
 exact .free (List.all_eq_true.1 h x (List.mem_of_getElem? hx))
theorem relFn {hp : Heap} {ns kb : List Nm} {f : FuncId} {xs : List V} (h : xs.all (·.free) = true) : ArgRel hp ns kb (.fn f xs) (.fn f xs) := .fn rfl (relFree h)
theorem relFn0 {hp : Heap} {ns kb : List Nm} {f : FuncId} : ArgRel hp ns kb (.fn f []) (.fn f []) := .fn rfl fun i a b ha => by simp at ha
theorem argsFree {H : Hp} {ns kb : List Nm} : ∀ {xs : List V}, xs.all (·.free) = true → ArgsR H ns kb xs xs
 | [], _ => .nil
 | x :: xs, h => by
  simp only [List.all_cons, Bool.and_eq_true] at h
  exact .cons (.free h.1) (argsFree h.2)
theorem cvFn {hp : Heap} {src : Nm → Option Nm} {D : List Nm} {N : Nm → Option Nat} {f : FuncId} {xs : List V} (h : xs.all (·.free) = true) : Cv hp src D N (.fn f xs) (.fn f xs) :=
 .fn rfl fun i x y hx hy => by
  rw [hx] at hy; cases hy
  exact .free (List.all_eq_true.1 h x (List.mem_of_getElem? hx))
section
variable {P : Program} {n : Nat} {T : Tm} {H : Hp} {o : Oper} {ops : Array Oper} {K : Lg → St → Prop} {rest : List Oper} {d : Nat}
theorem s_makeFunc {f : FuncId} {cs : Array Operand} {caps : List V} (ho : o.op = .makeFunc (.func f) #[] cs) (hc : cs.toList.map (mkT n T H).ev = caps) (hd : o.dst = some d) (hn : Nat.blt d n = true) (hg : wantA ops (mkT n T H) o = some true)
  (h : RegT P ops (kp K [] []) rest (mkT n ((d, .fn f caps) :: T) H)) : RegT P ops K (o :: rest) (mkT n T H) := s_of (v := .fn f caps) (by rw [← hc]; exact .makeFunc ho) rfl hd hn hg h
end
end Go.Abs
