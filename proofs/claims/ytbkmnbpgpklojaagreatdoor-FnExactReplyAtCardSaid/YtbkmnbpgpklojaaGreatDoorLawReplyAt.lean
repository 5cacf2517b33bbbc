/- The row of FnExactReplyAt: for every input that the row admits the law returns true and its input reads as it did. No further condition. -/
import Derived.Test.YtbkmnbpgpklojaaGreatDoorWalkReplyAt2
import Derived.Test.YtbkmnbpgpklojaaGreatDoorPureReplyAt
import Derived.Test.YtbkmnbpgpklojaaGreatDoorRows
import Derived.Test.YtbkmnbpgpklojaaGreatDoorAbsB3
import Derived.Test.YtbkmnbpgpklojaaGreatDoorAbsB4
import Derived.WalkKit
import Derived.ProofKit
import Derived.OpenShut
import Derived.ShutString
import Derived.ChangeOld
import Derived.Below
import Derived.Carry
import Derived.SizedLaws
import Derived.Test.YtbkmnbpgpklojaaGreatDoorTie
import Derived.Test.YtbkmnbpgpklojaaGreatDoorCards
import Derived.Handed
import Derived.Lay
import Derived.LaidOnce
import Derived.SevenTiedAt
import Derived.LaidMore
import Derived.Stop.Joined
namespace Go.Abs.M
open Go Go.Abs Go.Proofs
set_option maxRecDepth 100000 in
theorem tq140_4 (xs : List V) (h : Typed Tryz.prog 4 140 xs) : ∃ q : Rec, xs = recV q ∧ q.ok := by
  obtain ⟨y0, z0, rfl, t0, y1, z1, rfl, t1, y2, z2, rfl, t2, y3, z3, rfl, t3, y4, z4, rfl, t4, y5, z5, rfl, t5, rfl⟩ := typed_struct Tryz.underlying140 h
  obtain ⟨a0, rfl, h0⟩ := typed_str Tryz.underlying9 t0
  obtain ⟨a1, rfl, h1⟩ := typed_int Tryz.underlying3 t1
  obtain ⟨a2, rfl, h2⟩ := typed_int Tryz.underlying3 t2
  obtain ⟨a3, rfl, h3⟩ := typed_int Tryz.underlying3 t3
  obtain ⟨a4, rfl, h4⟩ := typed_str Tryz.underlying9 t4
  obtain ⟨a5, rfl, h5⟩ := typed_str Tryz.underlying9 t5
  exact ⟨⟨a0, a1, a2, a3, a4, a5⟩, rfl, h0, wf64 h1, wf64 h2, wf64 h3, h4, h5⟩
set_option maxRecDepth 100000 in
theorem tq136_6 (xs : List V) (h : Typed Tryz.prog 6 136 xs) : ∃ q : MZone, xs = mZoneV q ∧ q.ok := by
  obtain ⟨y0, z0, rfl, t0, y1, z1, rfl, t1, rfl⟩ := typed_struct Tryz.underlying136 h
  obtain ⟨a0, rfl, h0⟩ := typed_str Tryz.underlying9 t0
  obtain ⟨a1, rfl, h1⟩ := typed_list Tryz.underlying54 (f := recV) (z := 6) (by kernel_rfl) tq140_4 t1
  exact ⟨⟨a0, a1⟩, rfl, h0, h1⟩
set_option maxRecDepth 100000 in
theorem tq138_6 (xs : List V) (h : Typed Tryz.prog 6 138 xs) : ∃ q : MPost, xs = mPostV q ∧ q.ok := by
  obtain ⟨y0, z0, rfl, t0, y1, z1, rfl, t1, rfl⟩ := typed_struct Tryz.underlying138 h
  obtain ⟨a0, rfl, h0⟩ := typed_int Tryz.underlying3 t0
  obtain ⟨a1, rfl, h1⟩ := typed_str Tryz.underlying9 t1
  exact ⟨⟨a0, a1⟩, rfl, wf64 h0, h1⟩
set_option maxRecDepth 100000 in
theorem tq52_8 (xs : List V) (h : Typed Tryz.prog 8 52 xs) : ∃ q : MForest, xs = mForestV q ∧ q.ok := by
  obtain ⟨y0, z0, rfl, t0, y1, z1, rfl, t1, rfl⟩ := typed_struct Tryz.underlying52 h
  obtain ⟨a0, rfl, h0⟩ := typed_list Tryz.underlying49 (f := mZoneV) (z := 2) (by kernel_rfl) tq136_6 t0
  obtain ⟨a1, rfl, h1⟩ := typed_list Tryz.underlying50 (f := mPostV) (z := 2) (by kernel_rfl) tq138_6 t1
  exact ⟨⟨a0, a1⟩, rfl, h0, h1⟩
set_option maxRecDepth 100000 in
theorem tq53_7 (xs : List V) (h : Typed Tryz.prog 7 53 xs) : ∃ q : Quest, xs = questV q ∧ q.ok := by
  obtain ⟨y0, z0, rfl, t0, y1, z1, rfl, t1, rfl⟩ := typed_struct Tryz.underlying53 h
  obtain ⟨a0, rfl, h0⟩ := typed_str Tryz.underlying9 t0
  obtain ⟨a1, rfl, h1⟩ := typed_int Tryz.underlying3 t1
  exact ⟨⟨a0, a1⟩, rfl, h0, wf64 h1⟩
set_option maxRecDepth 100000 in
theorem tq140_6 (xs : List V) (h : Typed Tryz.prog 6 140 xs) : ∃ q : Rec, xs = recV q ∧ q.ok := by
  obtain ⟨y0, z0, rfl, t0, y1, z1, rfl, t1, y2, z2, rfl, t2, y3, z3, rfl, t3, y4, z4, rfl, t4, y5, z5, rfl, t5, rfl⟩ := typed_struct Tryz.underlying140 h
  obtain ⟨a0, rfl, h0⟩ := typed_str Tryz.underlying9 t0
  obtain ⟨a1, rfl, h1⟩ := typed_int Tryz.underlying3 t1
  obtain ⟨a2, rfl, h2⟩ := typed_int Tryz.underlying3 t2
  obtain ⟨a3, rfl, h3⟩ := typed_int Tryz.underlying3 t3
  obtain ⟨a4, rfl, h4⟩ := typed_str Tryz.underlying9 t4
  obtain ⟨a5, rfl, h5⟩ := typed_str Tryz.underlying9 t5
  exact ⟨⟨a0, a1, a2, a3, a4, a5⟩, rfl, h0, wf64 h1, wf64 h2, wf64 h3, h4, h5⟩
set_option maxRecDepth 100000 in
theorem tq56_8 (xs : List V) (h : Typed Tryz.prog 8 56 xs) : ∃ q : MMsg, xs = mMsgV q ∧ q.ok := by
  obtain ⟨y0, z0, rfl, t0, y1, z1, rfl, t1, y2, z2, rfl, t2, y3, z3, rfl, t3, y4, z4, rfl, t4, y5, z5, rfl, t5, y6, z6, rfl, t6, y7, z7, rfl, t7, y8, z8, rfl, t8, y9, z9, rfl, t9, y10, z10, rfl, t10, rfl⟩ := typed_struct Tryz.underlying56 h
  obtain ⟨a0, rfl, h0⟩ := typed_int Tryz.underlying3 t0
  obtain ⟨a1, rfl⟩ := typed_bool Tryz.underlying4 t1
  obtain ⟨a2, rfl⟩ := typed_bool Tryz.underlying4 t2
  obtain ⟨a3, rfl⟩ := typed_bool Tryz.underlying4 t3
  obtain ⟨a4, rfl⟩ := typed_bool Tryz.underlying4 t4
  obtain ⟨a5, rfl⟩ := typed_bool Tryz.underlying4 t5
  obtain ⟨a6, rfl, h6⟩ := typed_int Tryz.underlying3 t6
  obtain ⟨a7, rfl, h7⟩ := tq53_7 _ t7
  obtain ⟨a8, rfl, h8⟩ := typed_list Tryz.underlying54 (f := recV) (z := 6) (by kernel_rfl) tq140_6 t8
  obtain ⟨a9, rfl, h9⟩ := typed_list Tryz.underlying54 (f := recV) (z := 6) (by kernel_rfl) tq140_6 t9
  obtain ⟨a10, rfl, h10⟩ := typed_list Tryz.underlying54 (f := recV) (z := 6) (by kernel_rfl) tq140_6 t10
  exact ⟨⟨a0, a1, a2, a3, a4, a5, a6, a7, a8, a9, a10⟩, rfl, wf64 h0, wf64 h6, h7, h8, h9, h10⟩
end Go.Abs.M
namespace Go.Proofs.YtbkmnbpgpklojaaGreatDoor.fnExactReplyAt
open Go.ChangeShapes Go.WideShapes Go.ChangeAt Go.RowKit Go.Abs Go.Abs.M
theorem own : ownKnob Tryz.prog.godebug = none := by kernel_rfl
theorem laidOut : laidOutB Tryz.prog = true := by kernel_rfl
def laidL : List (String × DataW Unit) := [("unicode/utf8.acceptRanges", Rows.laid_unicode_utf8_acceptRanges), ("unicode/utf8.first", Rows.laid_unicode_utf8_first)]
set_option maxRecDepth 100000 in
set_option maxHeartbeats 1000000 in
theorem lifted (os : Os) (started : os.Started) (H : Type) (enc : TypeId × Value → H) :
    ReturnsInHanded {} Tryz.checked os 5 .any (fun w args => (Rows.fnExactReplyAtSpec.pre enc Tryz.prog Tryz.f5 [] false w args ∧ laidMetH Tryz.prog laidL w) ∧ sizedMet enc Tryz.prog Tryz.f5 (OpenSpec.ofChange Rows.fnExactReplyAtSpec) false w args) (Rows.fnExactReplyAtSpec.post enc Tryz.prog Tryz.f5 false true false false) := by
  refine returnsInHanded_of_change_and (C := Tryz.checked) (X := fun w _ => laidMetH Tryz.prog laidL w) (fun _ _ _ hh h => h.of_heap hh) own started (by kernel_rfl) Tryz.func5
    (ChangeSpec.witness_shaped (enc := enc) (C := Tryz.checked) (os := os) (X := fun w _ => laidMetH Tryz.prog laidL w) false (World.laidAll Tryz.prog os laidL) #[.agg #[.slice none 0 0, .slice none 0 0], .int .i64 0, .agg #[.int .i64 0, .bool false, .bool false, .bool false, .bool false, .bool false, .int .i64 0, .string ⟨#[]⟩, .int .i64 0, .slice none 0 0, .slice none 0 0, .slice none 0 0]] 8 (World.laidAll_os _ _ _)
      (World.shaped_of_ZipB (by kernel_rfl) (by kernel_rfl)) (by kernel_rfl) (by kernel_rfl) (by kernel_rfl)
      (by rw [MakeChecks.laidMetH_plain _ _ _ (by kernel_rfl)]; exact laidMet_laidAll _ (by kernel_rfl) (by kernel_rfl))) ?_
  intro W base args ds gs before hval0 hW _ _ _ _
  have hval : ∀ (j : Nat) t v, Tryz.f5.params[j]? = some t → args[j]? = some v → Value.okWide Tryz.prog W .any base t v := hval0
  have hW' := hW
  obtain ⟨p, q, hA0, hV, rfl, hfz, hnd⟩ := hW
  have hA : DataW.TrodAll enc Tryz.prog W 0 (fun _ => true) true Tryz.f5.params.toList args.toList ds p := hA0
  have hltp := hA.lt
  rw [Tryz.params5] at hA hval
  obtain ⟨v0, vs0, d0, ds0, p0, q0, hargs, rfl, rfl, h0, s0⟩ := trodAll_cons hA
  obtain ⟨v1, vs1, d1, ds1, p1, q1, rfl, rfl, rfl, h1, s1⟩ := trodAll_cons s0
  obtain ⟨v2, vs2, d2, ds2, p2, q2, rfl, rfl, rfl, h2, s2⟩ := trodAll_cons s1
  obtain ⟨rfl, rfl, rfl⟩ := trodAll_nil s2
  obtain rfl : args = #[v0, v1, v2] := by cases args; simp_all
  obtain ⟨rfl, rfl⟩ := trodVars_none hV
  obtain ⟨x0, e0, t0⟩ := trod_arg 8 (by kernel_rfl) (hval 0 52 v0 rfl rfl) h0
  obtain ⟨x1, e1, t1⟩ := trod_arg 8 (by kernel_rfl) (hval 1 3 v1 rfl rfl) h1
  obtain ⟨x2, e2, t2⟩ := trod_arg 8 (by kernel_rfl) (hval 2 56 v2 rfl rfl) h2
  obtain ⟨xs0, rfl, u0⟩ := argTy_struct Tryz.underlying52 t0
  obtain ⟨a0, rfl, k0⟩ := tq52_8 _ u0
  obtain ⟨a1, e1x, k1⟩ := typed_int Tryz.underlying3 (argTy_one (by rw [Tryz.underlying3]; intro fs q; cases q) t1)
  obtain rfl := (List.cons.inj e1x).1
  replace k1 := wf64 k1
  obtain ⟨xs2, rfl, u2⟩ := argTy_struct Tryz.underlying56 t2
  obtain ⟨a2, rfl, k2⟩ := tq56_8 _ u2
  refine (law_calls (ww_FnExactReplyAt a0 a1 a2 true (law_ReplyAt k0 k1 k2)) rfl (fun i x v hx hv => ?_)).mono fun e W' ⟨he, bel⟩ => ?_
  · match i, hx, hv with
    | 0, hx, hv => cases hx; cases hv; exact e0
    | 1, hx, hv => cases hx; cases hv; exact e1
    | 2, hx, hv => cases hx; cases hv; exact e2
  · subst he
    exact ⟨_, rfl, _, _, _, [], _, [], hW', trodAll_mk1 (shut_bool Tryz.underlying4 _), (trodAll_cons_mk (Below.trod laidOut (by kernel_rfl) (of_decide_eq_true (by kernel_rfl)) h0 bel (fun x hx => hltp x (by simp [hx]))) (trodAll_cons_mk (Below.trod laidOut (by kernel_rfl) (of_decide_eq_true (by kernel_rfl)) h1 bel (fun x hx => hltp x (by simp [hx]))) (trodAll_cons_mk (Below.trod laidOut (by kernel_rfl) (of_decide_eq_true (by kernel_rfl)) h2 bel (fun x hx => hltp x (by simp [hx]))) trodAll_mk0))), rfl, bel.frame _, fun h => by cases h⟩
theorem over : Rows.fnExactReplyAtRow.holds Tryz.pinned (OpenSpec.ofChange Rows.fnExactReplyAtSpec) :=
  OpenClaim.holds_of_wide 5 Tryz.f5 rfl rfl rfl rfl rfl rfl rfl ⟨rfl, rfl, rfl, rfl, rfl⟩ rfl rfl rfl rfl rfl (by kernel_rfl) Tryz.func5 (by kernel_rfl)
    (of_decide_eq_true (by kernel_rfl)) (by unfold Func.isWrapper; first | (rw [if_pos (by decide +kernel)]; kernel_rfl) | (rw [if_neg (by decide +kernel)]; exact ⟨rfl, rfl⟩))
    (fun os started H enc _ => lifted os started H enc)
theorem card : Rows.FnExactReplyAtCardSaid :=
  Claim7.holds_tied_plain_at .later [] [.data, .pinned] true (true, "63d1ac017404822e7a7723a8cc0b34d66240a0b074f6f4ee98853c5b4f1cf8d9") false over (fun _ h => by cases h) (by kernel_rfl) (fun _ h => by cases h) fnExactReplyAt_row_tie rfl ⟨rfl, rfl⟩ (by kernel_rfl) rfl
    (fun f fn hf hfn => by
      obtain rfl : f = 5 := Option.some.inj ((show Tryz.prog.funcNamed "loop.example/g00497/laws.FnExactReplyAt" = some 5 by kernel_rfl).symm.trans hf) |>.symm
      obtain rfl : fn = Tryz.f5 := (Option.some.inj (Tryz.func5.symm.trans hfn)).symm
      exact ⟨by kernel_rfl, fun j t ht => by
        rw [Tryz.params5] at ht
        have hm : t ∈ [52, 3, 56] := by simpa using Array.mem_of_getElem? ht
        have hall : ([52, 3, 56].all fun u => !Tryz.prog.wantsStandIn u) = true := by kernel_rfl
        exact (show Tryz.prog.wantsStandIn t = false by simpa using List.all_eq_true.1 hall t hm)⟩)
    (by kernel_rfl)
end Go.Proofs.YtbkmnbpgpklojaaGreatDoor.fnExactReplyAt
namespace Go.Proofs.YtbkmnbpgpklojaaGreatDoor
/-- The card, under a short name, for the claim. -/
theorem fnExactReplyAt_holds : Rows.FnExactReplyAtCardSaid := fnExactReplyAt.card
end Go.Proofs.YtbkmnbpgpklojaaGreatDoor
