/- The abstract layer, part A37. -/
import Derived.Test.YtbkmnbpgpklojaaGreatDoorAbsA29
namespace Go.Abs
open Go
section
variable {P : Program} {n : Nat} {T : Tm} {H : Hp} {o : Oper} {ops : Array Oper} {K : Lg → St → Prop} {rest : List Oper} {d : Nat} {x : Operand} {v : V}
theorem m1 (h : RegT P ops (kp K [] []) rest (mkT n ((d, v) :: T) H)) (ho : o.op = .move x ∨ o.op = .assign x := by exact .inl rfl) (hx : (mkT n T H).ev x = v := by conv => lhs; whnf) (hd : o.dst = some d := by exact rfl) (hn : Nat.blt d n = true := by exact rfl) (hg : wantA ops (mkT n T H) o = some true := by exact rfl) : RegT P ops K (o :: rest) (mkT n T H) := s_mv ho hx hd hn hg h
theorem m2 (h : RegT P ops (kp K [] []) rest (mkT n ((d, v) :: T) H)) (ho : o.op = .move x ∨ o.op = .assign x := by exact .inr rfl) (hx : (mkT n T H).ev x = v := by conv => lhs; whnf) (hd : o.dst = some d := by exact rfl) (hn : Nat.blt d n = true := by exact rfl) (hg : wantA ops (mkT n T H) o = some true := by exact rfl) : RegT P ops K (o :: rest) (mkT n T H) := s_mv ho hx hd hn hg h
end
theorem tri_sr {P : Program} {id : Nat} {l : List Oper} {y : Code} {Q : Exit → St → Prop} {st : St} (h : RegT P l.toArray (fun _ => Tri P y Q) l st) : Tri P (.seq (.region id l.toArray false) y) Q st := tri_seq (tri_region h)
end Go.Abs
