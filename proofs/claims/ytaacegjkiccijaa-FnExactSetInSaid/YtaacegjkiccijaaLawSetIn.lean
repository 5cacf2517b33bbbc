/- The row of FnExactSetIn: for every input that the row admits the law returns true and its input reads as it did. No further condition. -/
import Derived.Test.YtaacegjkiccijaaWalkSetIn
import Derived.Test.YtaacegjkiccijaaPureSetIn
import Derived.Test.YtaacegjkiccijaaRows
import Derived.Test.YtaacegjkiccijaaAbsB3
import Derived.WalkKit
import Derived.ProofKit
import Derived.OpenShut
import Derived.ShutString
import Derived.ChangeOld
import Derived.Below
import Derived.Carry
import Derived.SizedLaws
namespace Go.Abs.M
open Go Go.Abs Go.Proofs
set_option maxRecDepth 100000 in
theorem tq49_7 (xs : List V) (h : Typed Try.prog 7 49 xs) : ∃ q : Quest, xs = questV q ∧ q.ok := by
  obtain ⟨y0, z0, rfl, t0, y1, z1, rfl, t1, rfl⟩ := typed_struct Try.underlying49 h
  obtain ⟨a0, rfl, h0⟩ := typed_str Try.underlying9 t0
  obtain ⟨a1, rfl, h1⟩ := typed_int Try.underlying3 t1
  exact ⟨⟨a0, a1⟩, rfl, h0, wf64 h1⟩
set_option maxRecDepth 100000 in
theorem tq73_6 (xs : List V) (h : Typed Try.prog 6 73 xs) : ∃ q : Rec, xs = recV q ∧ q.ok := by
  obtain ⟨y0, z0, rfl, t0, y1, z1, rfl, t1, y2, z2, rfl, t2, y3, z3, rfl, t3, y4, z4, rfl, t4, y5, z5, rfl, t5, rfl⟩ := typed_struct Try.underlying73 h
  obtain ⟨a0, rfl, h0⟩ := typed_str Try.underlying9 t0
  obtain ⟨a1, rfl, h1⟩ := typed_int Try.underlying3 t1
  obtain ⟨a2, rfl, h2⟩ := typed_int Try.underlying3 t2
  obtain ⟨a3, rfl, h3⟩ := typed_int Try.underlying3 t3
  obtain ⟨a4, rfl, h4⟩ := typed_str Try.underlying9 t4
  obtain ⟨a5, rfl, h5⟩ := typed_str Try.underlying9 t5
  exact ⟨⟨a0, a1, a2, a3, a4, a5⟩, rfl, h0, wf64 h1, wf64 h2, wf64 h3, h4, h5⟩
set_option maxRecDepth 100000 in
theorem tq51_8 (xs : List V) (h : Typed Try.prog 8 51 xs) : ∃ q : MMsg, xs = mMsgV q ∧ q.ok := by
  obtain ⟨y0, z0, rfl, t0, y1, z1, rfl, t1, y2, z2, rfl, t2, y3, z3, rfl, t3, y4, z4, rfl, t4, y5, z5, rfl, t5, y6, z6, rfl, t6, y7, z7, rfl, t7, y8, z8, rfl, t8, y9, z9, rfl, t9, y10, z10, rfl, t10, rfl⟩ := typed_struct Try.underlying51 h
  obtain ⟨a0, rfl, h0⟩ := typed_int Try.underlying3 t0
  obtain ⟨a1, rfl⟩ := typed_bool Try.underlying4 t1
  obtain ⟨a2, rfl⟩ := typed_bool Try.underlying4 t2
  obtain ⟨a3, rfl⟩ := typed_bool Try.underlying4 t3
  obtain ⟨a4, rfl⟩ := typed_bool Try.underlying4 t4
  obtain ⟨a5, rfl⟩ := typed_bool Try.underlying4 t5
  obtain ⟨a6, rfl, h6⟩ := typed_int Try.underlying3 t6
  obtain ⟨a7, rfl, h7⟩ := tq49_7 _ t7
  obtain ⟨a8, rfl, h8⟩ := typed_list Try.underlying22 (f := recV) (z := 6) (by kernel_rfl) tq73_6 t8
  obtain ⟨a9, rfl, h9⟩ := typed_list Try.underlying22 (f := recV) (z := 6) (by kernel_rfl) tq73_6 t9
  obtain ⟨a10, rfl, h10⟩ := typed_list Try.underlying22 (f := recV) (z := 6) (by kernel_rfl) tq73_6 t10
  exact ⟨⟨a0, a1, a2, a3, a4, a5, a6, a7, a8, a9, a10⟩, rfl, wf64 h0, wf64 h6, h7, h8, h9, h10⟩
end Go.Abs.M
namespace Go.Proofs.Ytaacegjkiccijaa.fnExactSetIn
open Go.ChangeShapes Go.WideShapes Go.ChangeAt Go.RowKit Go.Abs Go.Abs.M
theorem own : ownKnob Try.prog.godebug = none := by kernel_rfl
theorem laidOut : laidOutB Try.prog = true := by kernel_rfl
set_option maxRecDepth 100000 in
set_option maxHeartbeats 1000000 in
theorem lifted (os : Os) (started : os.Started) (H : Type) (enc : TypeId × Value → H) :
    ReturnsInHanded {} Try.checked os 5 .any (Rows.fnExactSetInSpec.pre6 enc Try.prog Try.f5 Rows.fnExactSetInRow.domain false) (Rows.fnExactSetInSpec.post enc Try.prog Try.f5 false true false false) := by
  refine returnsInHanded_of_change_sized (C := Try.checked) own started (by kernel_rfl) Try.func5
    (ChangeSpec.witness6 (enc := enc) (C := Try.checked) false ⟨#[], #[.agg #[.int .i64 0, .bool false, .bool false, .bool false, .bool false, .bool false, .int .i64 0, .string ⟨#[]⟩, .int .i64 0, .slice none 0 0, .slice none 0 0, .slice none 0 0]], []⟩ 8 (by kernel_rfl) (by kernel_rfl) (by kernel_rfl) (by kernel_rfl)) ?_
  intro W base args ds gs before hval0 hW _ _ _
  have hval : ∀ (j : Nat) t v, Try.f5.params[j]? = some t → args[j]? = some v → Value.okWide Try.prog W .any base t v := hval0
  have hW' := hW
  obtain ⟨p, q, hA0, hV, rfl, hfz, hnd⟩ := hW
  have hA : DataW.TrodAll enc Try.prog W 0 (fun _ => true) true Try.f5.params.toList args.toList ds p := hA0
  have hltp := hA.lt
  rw [Try.params5] at hA hval
  obtain ⟨v0, vs0, d0, ds0, p0, q0, hargs, rfl, rfl, h0, s0⟩ := trodAll_cons hA
  obtain ⟨rfl, rfl, rfl⟩ := trodAll_nil s0
  obtain rfl : args = #[v0] := by cases args; simp_all
  obtain ⟨rfl, rfl⟩ := trodVars_none hV
  obtain ⟨x0, e0, t0⟩ := trod_arg 8 (by kernel_rfl) (hval 0 51 v0 rfl rfl) h0
  obtain ⟨xs0, rfl, u0⟩ := argTy_struct Try.underlying51 t0
  obtain ⟨a0, rfl, k0⟩ := tq51_8 _ u0
  refine (law_calls (ww_FnExactSetIn a0 true (law_SetIn k0)) rfl (fun i x v hx hv => ?_)).mono fun e W' ⟨he, bel⟩ => ?_
  · match i, hx, hv with
    | 0, hx, hv => cases hx; cases hv; exact e0
  · subst he
    exact ⟨_, rfl, _, _, _, [], _, [], hW', trodAll_mk1 (shut_bool Try.underlying4 _), (trodAll_cons_mk (Below.trod laidOut (by kernel_rfl) (of_decide_eq_true (by kernel_rfl)) h0 bel (fun x hx => hltp x (by simp [hx]))) trodAll_mk0), rfl, bel.frame _, fun h => by cases h⟩
theorem over : Rows.fnExactSetInRow.holds Try.pinned (OpenSpec.ofChange Rows.fnExactSetInSpec) :=
  OpenClaim.holds_of_wide 5 Try.f5 rfl rfl rfl rfl rfl rfl rfl ⟨rfl, rfl, rfl, rfl, rfl⟩ rfl rfl rfl rfl rfl (by kernel_rfl) Try.func5 (by kernel_rfl)
    (of_decide_eq_true (by kernel_rfl)) (by unfold Func.isWrapper; first | (rw [if_pos (by decide +kernel)]; kernel_rfl) | (rw [if_neg (by decide +kernel)]; exact ⟨rfl, rfl⟩))
    (fun os started H enc _ => lifted os started H enc)
end Go.Proofs.Ytaacegjkiccijaa.fnExactSetIn
namespace Go.Proofs.Ytaacegjkiccijaa
/-- The row, under a short name, for the claim. -/
theorem fnExactSetIn_holds : Rows.FnExactSetInSaid := fnExactSetIn.over
end Go.Proofs.Ytaacegjkiccijaa
