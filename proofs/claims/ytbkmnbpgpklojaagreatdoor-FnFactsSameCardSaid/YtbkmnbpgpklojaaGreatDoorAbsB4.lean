/- The abstract layer, part B4. -/
import Derived.Test.YtbkmnbpgpklojaaGreatDoorAbsB2
namespace Go.Abs
open Go
theorem wf8 {i : Int} (h : (Lit.int .u8 i).wf = true) : 0 ≤ i ∧ i < 256 := by
 simp only [Lit.wf, Bool.and_eq_true, decide_eq_true_eq] at h
 have h1 : IntKind.u8.min = 0 := by decide
 have h2 : IntKind.u8.max = 255 := by decide
 omega
theorem typed_int8 {P : Program} {m : Nat} {t : TypeId} {xs : List V} (ht : P.underlying t = some (.int .u8)) (h : Typed P (m + 1) t xs) : ∃ i, xs = [.sc (.int .u8 i)] ∧ 0 ≤ i ∧ i < 256 := by
 obtain ⟨i, h1, h2⟩ := typed_int ht h
 exact ⟨i, h1, wf8 h2⟩
end Go.Abs
