/- The abstract layer, part 33: steps for an append within a list, a slice up to what a list holds, a slice with a limit. -/
import Derived.Test.YtcdpmfnjajjlkaaDoorAbsA32
namespace Go.Abs
open Go

section
variable {P : Program} {n : Nat} {T : Tm} {H : Hp} {o : Oper} {ops : Array Oper} {K : Lg → St → Prop} {rest : List Oper} {d : Nat}
theorem s_appIn {α : Type} {f : α → List V} {l m : List α} {t e : TypeId} {z by_ k : Nat} {nm : Nm} {s x : Operand} {mi : Bool} (ho : o.op = .call { callee := .builtin .append, args := #[s, x], argTypes := #[t, t] })
    (hd : o.dst = some d) (ht : slTy P t = some (e, z, by_)) (hz0 : Nat.blt 0 z = true) (hs : (mkT n T H).ev s = .ref nm 0 k) (hE : lkH H nm = some (some ⟨e, z, l.map f, false, mi⟩))
    (hx : Src (mkT n T H) ((mkT n T H).ev x) z (m.map f)) (hk : k + m.length ≤ l.length) (hn : Nat.blt d n = true) (hg : wantA ops (mkT n T H) o = some true)
    (h : RegT P ops (kp K (nm :: srcN ((mkT n T H).ev x)) [nm]) rest (mkT n ((d, .ref nm 0 (k + m.length)) :: T) ((nm, some ⟨e, z, (l.take k ++ m ++ l.drop (k + m.length)).map f, false, mi⟩) :: H))) : RegT P ops K (o :: rest) (mkT n T H) := by
  have hs1 := StepE.appendIn (P := P) (st := mkT n T H) (rs := nm :: srcN ((mkT n T H).ev x)) (ws := [nm]) ho ht (by simpa [Nat.blt_eq] using hz0) hs hE rfl rfl rfl hx (by simpa using hk) (by simp) (fun m off l hm => by simp [srcN, hm])
  rw [List.length_map] at hs1
  refine s_ofH (k := nm) (e := some ⟨e, z, (l.take k ++ m ++ l.drop (k + m.length)).map f, false, mi⟩) hs1 ?_ hd hn hg h
  congr 2
  simp [List.map_take, List.map_drop]
theorem s_sliceCapZ {α : Type} {f : α → List V} {l : List α} {t e e' : TypeId} {x y y' : Operand} {nm : Nm} {off len z by_ : Nat} {k k' : IntKind} {s mi : Bool} {a b : Int} (ho : o.op = .slice t x (some y) (some y') none) (hx : (mkT n T H).ev x = .ref nm off len) (hE : lkH H nm = some (some ⟨e', z, l.map f, s, mi⟩)) (ht : slTy P t = some (e, z, by_))
    (h1 : (mkT n T H).ev y = .sc (.int k a)) (h2 : (mkT n T H).ev y' = .sc (.int k' b)) (hl : 0 ≤ a ∧ a ≤ b ∧ (off : Int) + b ≤ (l.length : Int)) (hd : o.dst = some d) (hn : Nat.blt d n = true) (hg : wantA ops (mkT n T H) o = some true)
    (h : RegT P ops (kp K [nm] []) rest (mkT n ((d, .ref nm (off + a.toNat) (b.toNat - a.toNat)) :: T) H)) : RegT P ops K (o :: rest) (mkT n T H) :=
  s_of (.sliceCap (k := k) (k' := k') ho hx hE ht rfl (by rw [h1, Int.toNat_of_nonneg hl.1]) (by rw [h2, Int.toNat_of_nonneg (by omega)]) (by omega) (by rw [List.length_map]; omega)) rfl hd hn hg h
theorem s_slice3 {t e : TypeId} {x y y' y2 : Operand} {nm : Nm} {off len z by_ : Nat} {k k' k2 : IntKind} {E : Entry} {a b m : Int} (ho : o.op = .slice t x (some y) (some y') (some y2)) (hx : (mkT n T H).ev x = .ref nm off len) (hE : lkH H nm = some (some E)) (ht : slTy P t = some (e, z, by_))
    (h1 : (mkT n T H).ev y = .sc (.int k a)) (h2 : (mkT n T H).ev y' = .sc (.int k' b)) (h3 : (mkT n T H).ev y2 = .sc (.int k2 m)) (hl : 0 ≤ a ∧ a ≤ b ∧ b ≤ m ∧ m ≤ (len : Int)) (hd : o.dst = some d) (hn : Nat.blt d n = true) (hg : wantA ops (mkT n T H) o = some true)
    (h : RegT P ops (kp K [nm] []) rest (mkT n ((d, .undef) :: T) H)) : RegT P ops K (o :: rest) (mkT n T H) :=
  s_of (.slice3 (l := a.toNat) (hh := b.toNat) (m := m.toNat) (k := k) (k' := k') (k2 := k2) ho hx hE ht (by rw [h1, Int.toNat_of_nonneg hl.1]) (by rw [h2, Int.toNat_of_nonneg (by omega)]) (by rw [h3, Int.toNat_of_nonneg (by omega)]) (by omega) (by omega) (by omega)) rfl hd hn hg h
end
end Go.Abs
