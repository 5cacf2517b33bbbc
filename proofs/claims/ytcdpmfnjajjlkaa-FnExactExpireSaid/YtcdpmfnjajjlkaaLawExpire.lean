/- The row of FnExactExpire: for every input that the row admits the law returns true and its input reads as it did. No further condition. -/
import Derived.Test.YtcdpmfnjajjlkaaWalkExpire1
import Derived.Test.YtcdpmfnjajjlkaaPureExpire
import Derived.Test.YtcdpmfnjajjlkaaRows
import Derived.Test.YtcdpmfnjajjlkaaAbsB3
import Derived.Test.YtcdpmfnjajjlkaaAbsB4
import Derived.WalkKit
import Derived.ProofKit
import Derived.OpenShut
import Derived.ShutString
import Derived.ChangeOld
import Derived.Below
import Derived.Carry
import Derived.SizedLaws
namespace Go.Abs.M
open Go Go.Abs Go.Proofs
set_option maxRecDepth 100000 in
theorem tq33_5 (xs : List V) (h : Typed Try.prog 5 33 xs) : ∃ q : Quest, xs = questV q ∧ q.ok := by
  obtain ⟨y0, z0, rfl, t0, y1, z1, rfl, t1, rfl⟩ := typed_struct Try.underlying33 h
  obtain ⟨a0, rfl, h0⟩ := typed_str Try.underlying9 t0
  obtain ⟨a1, rfl, h1⟩ := typed_int Try.underlying3 t1
  exact ⟨⟨a0, a1⟩, rfl, h0, wf64 h1⟩
set_option maxRecDepth 100000 in
theorem tq78_4 (xs : List V) (h : Typed Try.prog 4 78 xs) : ∃ q : Rec, xs = recV q ∧ q.ok := by
  obtain ⟨y0, z0, rfl, t0, y1, z1, rfl, t1, y2, z2, rfl, t2, y3, z3, rfl, t3, y4, z4, rfl, t4, y5, z5, rfl, t5, rfl⟩ := typed_struct Try.underlying78 h
  obtain ⟨a0, rfl, h0⟩ := typed_str Try.underlying9 t0
  obtain ⟨a1, rfl, h1⟩ := typed_int Try.underlying3 t1
  obtain ⟨a2, rfl, h2⟩ := typed_int Try.underlying3 t2
  obtain ⟨a3, rfl, h3⟩ := typed_int Try.underlying3 t3
  obtain ⟨a4, rfl, h4⟩ := typed_str Try.underlying9 t4
  obtain ⟨a5, rfl, h5⟩ := typed_str Try.underlying9 t5
  exact ⟨⟨a0, a1, a2, a3, a4, a5⟩, rfl, h0, wf64 h1, wf64 h2, wf64 h3, h4, h5⟩
set_option maxRecDepth 100000 in
theorem tq67_6 (xs : List V) (h : Typed Try.prog 6 67 xs) : ∃ q : MEntry, xs = mEntryV q ∧ q.ok := by
  obtain ⟨y0, z0, rfl, t0, y1, z1, rfl, t1, y2, z2, rfl, t2, y3, z3, rfl, t3, y4, z4, rfl, t4, rfl⟩ := typed_struct Try.underlying67 h
  obtain ⟨a0, rfl, h0⟩ := tq33_5 _ t0
  obtain ⟨a1, rfl, h1⟩ := typed_int Try.underlying3 t1
  obtain ⟨a2, rfl, h2⟩ := typed_list Try.underlying65 (f := recV) (z := 6) (by kernel_rfl) tq78_4 t2
  obtain ⟨a3, rfl, h3⟩ := typed_int Try.underlying3 t3
  obtain ⟨a4, rfl, h4⟩ := typed_int Try.underlying3 t4
  exact ⟨⟨a0, a1, a2, a3, a4⟩, rfl, h0, wf64 h1, h2, wf64 h3, wf64 h4⟩
set_option maxRecDepth 100000 in
theorem tq31_8 (xs : List V) (h : Typed Try.prog 8 31 xs) : ∃ q : MCache, xs = mCacheV q ∧ q.ok := by
  obtain ⟨y0, z0, rfl, t0, y1, z1, rfl, t1, rfl⟩ := typed_struct Try.underlying31 h
  obtain ⟨a0, rfl, h0⟩ := typed_int Try.underlying3 t0
  obtain ⟨a1, rfl, h1⟩ := typed_list Try.underlying29 (f := mEntryV) (z := 6) (by kernel_rfl) tq67_6 t1
  exact ⟨⟨a0, a1⟩, rfl, wf64 h0, h1⟩
end Go.Abs.M
namespace Go.Proofs.Ytcdpmfnjajjlkaa.fnExactExpire
open Go.ChangeShapes Go.WideShapes Go.ChangeAt Go.RowKit Go.Abs Go.Abs.M
theorem own : ownKnob Try.prog.godebug = none := by kernel_rfl
theorem laidOut : laidOutB Try.prog = true := by kernel_rfl
set_option maxRecDepth 100000 in
set_option maxHeartbeats 1000000 in
theorem lifted (os : Os) (started : os.Started) (H : Type) (enc : TypeId × Value → H) :
    ReturnsInHanded {} Try.checked os 5 .any (Rows.fnExactExpireSpec.pre6 enc Try.prog Try.f5 Rows.fnExactExpireRow.domain false) (Rows.fnExactExpireSpec.post enc Try.prog Try.f5 false true false false) := by
  refine returnsInHanded_of_change_sized (C := Try.checked) own started (by kernel_rfl) Try.func5
    (ChangeSpec.witness6 (enc := enc) (C := Try.checked) false ⟨#[], #[.agg #[.int .i64 0, .slice none 0 0], .int .i64 0], []⟩ 8 (by kernel_rfl) (by kernel_rfl) (by kernel_rfl) (by kernel_rfl)) ?_
  intro W base args ds gs before hval0 hW _ _ _
  have hval : ∀ (j : Nat) t v, Try.f5.params[j]? = some t → args[j]? = some v → Value.okWide Try.prog W .any base t v := hval0
  have hW' := hW
  obtain ⟨p, q, hA0, hV, rfl, hfz, hnd⟩ := hW
  have hA : DataW.TrodAll enc Try.prog W 0 (fun _ => true) true Try.f5.params.toList args.toList ds p := hA0
  have hltp := hA.lt
  rw [Try.params5] at hA hval
  obtain ⟨v0, vs0, d0, ds0, p0, q0, hargs, rfl, rfl, h0, s0⟩ := trodAll_cons hA
  obtain ⟨v1, vs1, d1, ds1, p1, q1, rfl, rfl, rfl, h1, s1⟩ := trodAll_cons s0
  obtain ⟨rfl, rfl, rfl⟩ := trodAll_nil s1
  obtain rfl : args = #[v0, v1] := by cases args; simp_all
  obtain ⟨rfl, rfl⟩ := trodVars_none hV
  obtain ⟨x0, e0, t0⟩ := trod_arg 8 (by kernel_rfl) (hval 0 31 v0 rfl rfl) h0
  obtain ⟨x1, e1, t1⟩ := trod_arg 8 (by kernel_rfl) (hval 1 3 v1 rfl rfl) h1
  obtain ⟨xs0, rfl, u0⟩ := argTy_struct Try.underlying31 t0
  obtain ⟨a0, rfl, k0⟩ := tq31_8 _ u0
  obtain ⟨a1, e1x, k1⟩ := typed_int Try.underlying3 (argTy_one (by rw [Try.underlying3]; intro fs q; cases q) t1)
  obtain rfl := (List.cons.inj e1x).1
  replace k1 := wf64 k1
  refine (law_calls (ww_FnExactExpire a0 a1 true (law_Expire k0 k1)) rfl (fun i x v hx hv => ?_)).mono fun e W' ⟨he, bel⟩ => ?_
  · match i, hx, hv with
    | 0, hx, hv => cases hx; cases hv; exact e0
    | 1, hx, hv => cases hx; cases hv; exact e1
  · subst he
    exact ⟨_, rfl, _, _, _, [], _, [], hW', trodAll_mk1 (shut_bool Try.underlying4 _), (trodAll_cons_mk (Below.trod laidOut (by kernel_rfl) (of_decide_eq_true (by kernel_rfl)) h0 bel (fun x hx => hltp x (by simp [hx]))) (trodAll_cons_mk (Below.trod laidOut (by kernel_rfl) (of_decide_eq_true (by kernel_rfl)) h1 bel (fun x hx => hltp x (by simp [hx]))) trodAll_mk0)), rfl, bel.frame _, fun h => by cases h⟩
theorem over : Rows.fnExactExpireRow.holds Try.pinned (OpenSpec.ofChange Rows.fnExactExpireSpec) :=
  OpenClaim.holds_of_wide 5 Try.f5 rfl rfl rfl rfl rfl rfl rfl ⟨rfl, rfl, rfl, rfl, rfl⟩ rfl rfl rfl rfl rfl (by kernel_rfl) Try.func5 (by kernel_rfl)
    (of_decide_eq_true (by kernel_rfl)) (by unfold Func.isWrapper; first | (rw [if_pos (by decide +kernel)]; kernel_rfl) | (rw [if_neg (by decide +kernel)]; exact ⟨rfl, rfl⟩))
    (fun os started H enc _ => lifted os started H enc)
end Go.Proofs.Ytcdpmfnjajjlkaa.fnExactExpire
namespace Go.Proofs.Ytcdpmfnjajjlkaa
/-- The row, under a short name, for the claim. -/
theorem fnExactExpire_holds : Rows.FnExactExpireSaid := fnExactExpire.over
end Go.Proofs.Ytcdpmfnjajjlkaa
