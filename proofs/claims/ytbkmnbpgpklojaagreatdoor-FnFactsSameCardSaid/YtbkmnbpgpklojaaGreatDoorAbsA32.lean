/- The abstract layer, part A32. -/
import Derived.Test.YtbkmnbpgpklojaaGreatDoorAbsA31
namespace Go.Abs
open Go
section
variable {P : Program} {n : Nat} {T : Tm} {H : Hp} {o : Oper} {ops : Array Oper} {K : Lg → St → Prop} {rest : List Oper} {d : Nat}
end
end Go.Abs
