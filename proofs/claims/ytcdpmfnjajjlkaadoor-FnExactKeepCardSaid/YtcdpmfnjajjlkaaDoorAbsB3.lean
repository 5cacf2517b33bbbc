/- The abstract layer, arguments: readings of lists of numbers. -/
import Derived.Test.YtcdpmfnjajjlkaaDoorAbsB2
namespace Go.Abs
open Go
theorem typed_int64 {P : Program} {m : Nat} {t : TypeId} {xs : List V} (ht : P.underlying t = some (.int .i64)) (h : Typed P (m + 1) t xs) : ∃ i, xs = [.sc (.int .i64 i)] ∧ -9223372036854775808 ≤ i ∧ i < 9223372036854775808 := by
  obtain ⟨i, h1, h2⟩ := typed_int ht h
  exact ⟨i, h1, wf64 h2⟩
theorem typed_intT {P : Program} {m : Nat} {t : TypeId} {k : IntKind} {xs : List V} (ht : P.underlying t = some (.int k)) (h : Typed P (m + 1) t xs) : ∃ i, xs = [.sc (.int k i)] ∧ True := by
  obtain ⟨i, h1, h2⟩ := typed_int ht h
  exact ⟨i, h1, trivial⟩
end Go.Abs
