/- The abstract layer, part A31. -/
import Derived.Test.YtbkmnbpgpklojaaGreatDoorAbsA30
namespace Go.Abs
open Go
inductive RetL (d : Nat) (ns : List Nm) (own : List (Nat × Entry)) (p : V → Prop) : List V → List V → Prop where
 | nil : RetL d ns own p [] []
 | cons {x y : V} {xs ys : List V} (h : RetRel d ns own p x y) (t : RetL d ns own p xs ys) : RetL d ns own p (x :: xs) (y :: ys)
section
variable {d : Nat} {ns : List Nm} {own : List (Nat × Entry)} {p : V → Prop}
theorem RetL.len {xs ys : List V} (h : RetL d ns own p xs ys) : xs.length = ys.length := by
 induction h with
 | nil => rfl
 | cons _ _ ih => simp [ih]
theorem RetL.get {xs ys : List V} (h : RetL d ns own p xs ys) : ∀ (i : Nat) x y, xs[i]? = some x → ys[i]? = some y → RetRel d ns own p x y := by
 induction h with
 | nil => intro i x y hx; simp at hx
 | cons h _ ih =>
  intro i x y hx hy
  cases i with
  | zero => simp at hx hy; subst hx hy; exact h
  | succ i => exact ih i x y (by simpa using hx) (by simpa using hy)
theorem RetL.agg {xs ys : List V} (h : RetL d ns own p xs ys) : RetRel d ns own p (.agg xs) (.agg ys) := .agg h.len h.get
inductive OwnsR (d : Nat) (ns : List Nm) (own : List (Nat × Entry)) (p : V → Prop) : List (Nat × Entry) → List (Nat × Entry) → Prop where
 | nil : OwnsR d ns own p [] []
 | cons {q : Nat} {E E' : Entry} {os os' : List (Nat × Entry)} (h : OutRel d ns own p E E') (hm : E'.mine = true → E.mine = true) (t : OwnsR d ns own p os os') : OwnsR d ns own p ((q, E) :: os) ((q, E') :: os')
theorem OwnsR.lookup {os os' : List (Nat × Entry)} (h : OwnsR d ns own p os os') (q : Nat) : (os'.lookup q = none ∧ os.lookup q = none) ∨ ∃ E E', os'.lookup q = some E' ∧ os.lookup q = some E ∧ OutRel d ns own p E E' ∧ (E'.mine = true → E.mine = true) := by
 induction h with
 | nil => exact .inl ⟨rfl, rfl⟩
 | @cons q' E E' os os' h hm t ih =>
  rw [List.lookup_cons, List.lookup_cons]
  cases hb : q == q' with
  | true => exact .inr ⟨E, E', rfl, rfl, h, hm⟩
  | false => exact ih
end
section
variable {P : Program} {n : Nat} {T : Tm} {H : Hp} {o : Oper} {ops : Array Oper} {K : Lg → St → Prop} {rest : List Oper} {d : Nat}
inductive InsL (H : Hp) (ns kb : List Nm) : List Nm → List Entry → Prop where
 | nil : InsL H ns kb [] []
 | cons {m : Nm} {E' E : Entry} {ms : List Nm} {Es : List Entry} (hl : lkH H m = some (some E')) (h : InsRel (lkH H) ns kb E' E) (t : InsL H ns kb ms Es) : InsL H ns kb (m :: ms) (E :: Es)
theorem InsL.len {ns kb ms : List Nm} {Es : List Entry} (h : InsL H ns kb ms Es) : Es.length = ms.length := by
 induction h with
 | nil => rfl
 | cons _ _ _ ih => simp [ih]
theorem InsL.get {ns kb ms : List Nm} {Es : List Entry} (h : InsL H ns kb ms Es) : ∀ (i : Nat) m, ms[i]? = some m → ∃ E' E, lkH H m = some (some E') ∧ Es[i]? = some E ∧ InsRel (lkH H) ns kb E' E := by
 induction h with
 | nil => intro i m hm; simp at hm
 | @cons m E' E ms Es hl h _ ih =>
  intro i k hk
  cases i with
  | zero => simp only [List.getElem?_cons_zero, Option.some.injEq] at hk; subst hk; exact ⟨E', E, hl, rfl, h⟩
  | succ i => simpa using ih i k (by simpa using hk)
theorem InsL.app {ns kb ms ms' : List Nm} {Es Es' : List Entry} (h : InsL H ns kb ms Es) (k : InsL H ns kb ms' Es') : InsL H ns kb (ms ++ ms') (Es ++ Es') := by
 induction h with
 | nil => exact k
 | cons hl hr _ ih => exact .cons hl hr ih
end
end Go.Abs
