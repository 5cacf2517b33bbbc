/- The abstract layer, part B2. -/
import Derived.Test.YtbkmnbpgpklojaaGreatDoorAbsB1
namespace Go.Abs
open Go
theorem rows_map {α : Type} {f : α → List V} {p : α → Prop} : ∀ {rows : List (List V)}, (∀ r, r ∈ rows → ∃ q, r = f q ∧ p q) → ∃ l : List α, rows = l.map f ∧ ∀ q, q ∈ l → p q
 | [], _ => ⟨[], rfl, fun q h => by cases h⟩
 | r :: rows, h => by
  obtain ⟨q, rfl, hq⟩ := h r (.head _)
  obtain ⟨l, rfl, hl⟩ := rows_map fun r hr => h r (.tail _ hr)
  exact ⟨q :: l, rfl, fun x hx => by cases hx with | head => exact hq | tail _ hx => exact hl x hx⟩
theorem typed_int {P : Program} {m : Nat} {t : TypeId} {k : IntKind} {xs : List V} (ht : P.underlying t = some (.int k)) (h : Typed P (m + 1) t xs) : ∃ i, xs = [.sc (.int k i)] ∧ (Lit.int k i).wf = true := by
 unfold Typed at h; rw [ht] at h; exact h
theorem typed_slice {P : Program} {m : Nat} {t e : TypeId} {z : Nat} {xs : List V} (ht : P.underlying t = some (.slice e)) (hz : P.cellsOf e = z) (h : Typed P (m + 1) t xs) :
  ∃ rows, xs = [.lst z rows] ∧ rows.length ≤ 9223372036854775807 ∧ ∀ r, r ∈ rows → Typed P m e r := by
 unfold Typed at h; rw [ht] at h; subst hz; exact h
theorem typed_list {P : Program} {m : Nat} {t e : TypeId} {z : Nat} {xs : List V} {α : Type} {f : α → List V} {p : α → Prop} (ht : P.underlying t = some (.slice e)) (hz : P.cellsOf e = z) (hf : ∀ r, Typed P m e r → ∃ q, r = f q ∧ p q) (h : Typed P (m + 1) t xs) :
  ∃ l : List α, xs = [.lst z (l.map f)] ∧ l.length ≤ 9223372036854775807 ∧ ∀ q, q ∈ l → p q := by
 obtain ⟨rows, rfl, h1, h2⟩ := typed_slice ht hz h
 obtain ⟨l, rfl, h3⟩ := rows_map fun r hr => hf r (h2 r hr)
 exact ⟨l, rfl, by simpa using h1, h3⟩
theorem argTy_one {P : Program} {m : Nat} {t : TypeId} {x : V} (ht : ∀ fs, P.underlying t ≠ some (.struct fs)) (h : ArgTy P m t x) : Typed P m t [x] := by
 unfold ArgTy at h
 split at h
 ·rename_i fs q; exact absurd q (ht fs)
 ·exact h.2
end Go.Abs
