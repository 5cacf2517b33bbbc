/- The abstract layer, part A33. -/
import Derived.Test.YtbkmnbpgpklojaaGreatDoorAbsA32
namespace Go.Abs
open Go
section
variable {P : Program} {n : Nat} {T : Tm} {H : Hp} {o : Oper} {ops : Array Oper} {K : Lg → St → Prop} {rest : List Oper} {d : Nat}
theorem s_appIn {α : Type} {f : α → List V} {l m : List α} {t e : TypeId} {z by_ k : Nat} {nm : Nm} {s x : Operand} {mi : Bool} (ho : o.op = .call { callee := .builtin .append, args := #[s, x], argTypes := #[t, t] })
  (hd : o.dst = some d) (ht : slTy P t = some (e, z, by_)) (hz0 : Nat.blt 0 z = true) (hs : (mkT n T H).ev s = .ref nm 0 k) (hE : lkH H nm = some (some ⟨e, z, l.map f, false, mi⟩))
  (hx : Src (mkT n T H) ((mkT n T H).ev x) z (m.map f)) (hk : k + m.length ≤ l.length) (hn : Nat.blt d n = true) (hg : wantA ops (mkT n T H) o = some true)
  (h : RegT P ops (kp K (nm :: srcN ((mkT n T H).ev x)) [nm]) rest (mkT n ((d, .ref nm 0 (k + m.length)) :: T) ((nm, some ⟨e, z, (l.take k ++ m ++ l.drop (k + m.length)).map f, false, mi⟩) :: H))) : RegT P ops K (o :: rest) (mkT n T H) := by
 have hs1 := StepE.appendIn (P := P) (st := mkT n T H) (rs := nm :: srcN ((mkT n T H).ev x)) (ws := [nm]) ho ht (by simpa [Nat.blt_eq] using hz0) hs hE rfl rfl rfl hx (by simpa using hk) (by simp) (fun m off l hm => by simp [srcN, hm])
 rw [List.length_map] at hs1
 refine s_ofH (k := nm) (e := some ⟨e, z, (l.take k ++ m ++ l.drop (k + m.length)).map f, false, mi⟩) hs1 ?_ hd hn hg h
 congr 2
 simp [List.map_take, List.map_drop]
end
end Go.Abs
