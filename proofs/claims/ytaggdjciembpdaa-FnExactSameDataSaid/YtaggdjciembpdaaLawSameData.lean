/- The row of FnExactSameData: for every input that the row admits the law returns true and its input reads as it did. No further condition. -/
import Derived.Test.YtaggdjciembpdaaWalkSameData
import Derived.Test.YtaggdjciembpdaaRows
import Derived.WalkKit
import Derived.ProofKit
import Derived.OpenShut
import Derived.ShutString
import Derived.ChangeOld
import Derived.Below
import Derived.Carry
import Derived.SizedLaws
namespace Go.Abs.R1
open Go Go.Abs Go.Proofs
set_option maxRecDepth 100000 in
theorem rec84 (xs : List V) (h : Typed Try.prog 7 84 xs) : ∃ r : Rec, xs = recV r ∧ r.ok := by
  obtain ⟨ys0, zs0, rfl, t0, y1, z1, rfl, t1, y2, z2, rfl, t2, y3, z3, rfl, t3, y4, z4, rfl, t4, y5, z5, rfl, t5, rfl⟩ := typed_struct Try.underlying84 h
  obtain ⟨a, rfl, ha⟩ := typed_str Try.underlying9 t0
  obtain ⟨b, rfl, hb⟩ := typed_int Try.underlying3 t1
  obtain ⟨c, rfl, hc⟩ := typed_int Try.underlying3 t2
  obtain ⟨d, rfl, hd⟩ := typed_int Try.underlying3 t3
  obtain ⟨e, rfl, he⟩ := typed_str Try.underlying9 t4
  obtain ⟨f, rfl, hf⟩ := typed_str Try.underlying9 t5
  exact ⟨⟨a, b, c, d, e, f⟩, rfl, ha, he, hf⟩
set_option maxRecDepth 100000 in
theorem arg24 {x : V} (h : ArgTy Try.prog 8 24 x) : ∃ l : List Rec, x = .lst 6 (l.map recV) ∧ l.length ≤ 9223372036854775807 ∧ ∀ r, r ∈ l → r.ok := by
  obtain ⟨l, h1, h2⟩ := typed_list Try.underlying24 (by kernel_rfl) rec84 (argTy_one (by rw [Try.underlying24]; intro fs q; cases q) h)
  exact ⟨l, by simpa using h1, h2⟩
end Go.Abs.R1
namespace Go.Proofs.Ytaggdjciembpdaa.fnExactSameData
open Go.ChangeShapes Go.WideShapes Go.ChangeAt Go.RowKit Go.Abs Go.Abs.R1
theorem own : ownKnob Try.prog.godebug = none := by kernel_rfl
theorem laidOut : laidOutB Try.prog = true := by kernel_rfl
set_option maxRecDepth 100000 in
theorem lifted (os : Os) (started : os.Started) (H : Type) (enc : TypeId × Value → H) :
    ReturnsInHanded {} Try.checked os 7 .any (Rows.fnExactSameDataSpec.pre6 enc Try.prog Try.f7 Rows.fnExactSameDataRow.domain false) (Rows.fnExactSameDataSpec.post enc Try.prog Try.f7 false true false false) := by
  refine returnsInHanded_of_change_sized (C := Try.checked) own started (by kernel_rfl) Try.func7
    (ChangeSpec.witness6 (enc := enc) (C := Try.checked) false ⟨#[], #[.slice none 0 0, .slice none 0 0], []⟩ 8 (by kernel_rfl) (by kernel_rfl) (by kernel_rfl) (by kernel_rfl)) ?_
  intro W base args ds gs before hval0 hW _ _ _
  have hval : ∀ (j : Nat) t v, Try.f7.params[j]? = some t → args[j]? = some v → Value.okWide Try.prog W .any base t v := hval0
  have hW' := hW
  obtain ⟨p, q, hA0, hV, rfl, hfz, hnd⟩ := hW
  have hA : DataW.TrodAll enc Try.prog W 0 (fun _ => true) true Try.f7.params.toList args.toList ds p := hA0
  have hltp := hA.lt
  rw [Try.params7] at hA hval
  obtain ⟨v0, vs0, d0, ds0, p0, q0, hargs, rfl, rfl, h0, s0⟩ := trodAll_cons hA
  obtain ⟨v1, vs1, d1, ds1, p1, q1, rfl, rfl, rfl, h1, s1⟩ := trodAll_cons s0
  obtain ⟨rfl, rfl, rfl⟩ := trodAll_nil s1
  obtain rfl : args = #[v0, v1] := by cases args; simp_all
  obtain ⟨rfl, rfl⟩ := trodVars_none hV
  obtain ⟨x0, e0, t0⟩ := trod_arg 8 (by kernel_rfl) (hval 0 24 v0 rfl rfl) h0
  obtain ⟨x1, e1, t1⟩ := trod_arg 8 (by kernel_rfl) (hval 1 24 v1 rfl rfl) h1
  obtain ⟨l, rfl, hl, hr⟩ := arg24 t0
  obtain ⟨q2, rfl, hl2, hr2⟩ := arg24 t1
  refine (law_calls (r7 l q2 hl hr hl2 hr2) rfl (fun i x v hx hv => ?_)).mono fun e W' ⟨he, bel⟩ => ?_
  · match i, hx, hv with
    | 0, hx, hv => cases hx; cases hv; exact e0
    | 1, hx, hv => cases hx; cases hv; exact e1
  · subst he
    exact ⟨_, rfl, _, _, _, [], _, [], hW', trodAll_mk1 (shut_bool Try.underlying4 _), (trodAll_cons_mk (Below.trod laidOut (by kernel_rfl) (of_decide_eq_true (by kernel_rfl)) h0 bel (fun x hx => hltp x (by simp [hx]))) (trodAll_cons_mk (Below.trod laidOut (by kernel_rfl) (of_decide_eq_true (by kernel_rfl)) h1 bel (fun x hx => hltp x (by simp [hx]))) trodAll_mk0)), rfl, bel.frame _, fun h => by cases h⟩
theorem over : Rows.fnExactSameDataRow.holds Try.pinned (OpenSpec.ofChange Rows.fnExactSameDataSpec) :=
  OpenClaim.holds_of_wide 7 Try.f7 rfl rfl rfl rfl rfl rfl rfl ⟨rfl, rfl, rfl, rfl, rfl⟩ rfl rfl rfl rfl rfl (by kernel_rfl) Try.func7 (by kernel_rfl)
    (of_decide_eq_true (by kernel_rfl)) (by unfold Func.isWrapper; first | (rw [if_pos (by decide +kernel)]; kernel_rfl) | (rw [if_neg (by decide +kernel)]; exact ⟨rfl, rfl⟩))
    (fun os started H enc _ => lifted os started H enc)
end Go.Proofs.Ytaggdjciembpdaa.fnExactSameData
namespace Go.Proofs.Ytaggdjciembpdaa
/-- The row, under a short name, for the claim. -/
theorem fnExactSameData_holds : Rows.FnExactSameDataSaid := fnExactSameData.over
end Go.Proofs.Ytaggdjciembpdaa
