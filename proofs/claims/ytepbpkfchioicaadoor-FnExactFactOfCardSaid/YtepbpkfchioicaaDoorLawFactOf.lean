/- The row of FnExactFactOf: for every input that the row admits the law returns true and its input reads as it did. No further condition. -/
import Derived.Test.YtepbpkfchioicaaDoorWalkFactOf1
import Derived.Test.YtepbpkfchioicaaDoorPureFactOf
import Derived.Test.YtepbpkfchioicaaDoorRows
import Derived.Test.YtepbpkfchioicaaDoorAbsB3
import Derived.Test.YtepbpkfchioicaaDoorAbsB4
import Derived.WalkKit
import Derived.ProofKit
import Derived.OpenShut
import Derived.ShutString
import Derived.ChangeOld
import Derived.Below
import Derived.Carry
import Derived.SizedLaws
import Derived.Test.YtepbpkfchioicaaDoorTie
import Derived.Test.YtepbpkfchioicaaDoorCards
import Derived.Handed
import Derived.Lay
import Derived.LaidOnce
import Derived.SevenTiedAt
import Derived.LaidMore
import Derived.Stop.Joined
namespace Go.Abs.M
open Go Go.Abs Go.Proofs
set_option maxRecDepth 100000 in
theorem tq126_4 (xs : List V) (h : Typed Tryd.prog 4 126 xs) : ∃ q : Rec, xs = recV q ∧ q.ok := by
  obtain ⟨y0, z0, rfl, t0, y1, z1, rfl, t1, y2, z2, rfl, t2, y3, z3, rfl, t3, y4, z4, rfl, t4, y5, z5, rfl, t5, rfl⟩ := typed_struct Tryd.underlying126 h
  obtain ⟨a0, rfl, h0⟩ := typed_str Tryd.underlying9 t0
  obtain ⟨a1, rfl, h1⟩ := typed_int Tryd.underlying3 t1
  obtain ⟨a2, rfl, h2⟩ := typed_int Tryd.underlying3 t2
  obtain ⟨a3, rfl, h3⟩ := typed_int Tryd.underlying3 t3
  obtain ⟨a4, rfl, h4⟩ := typed_str Tryd.underlying9 t4
  obtain ⟨a5, rfl, h5⟩ := typed_str Tryd.underlying9 t5
  exact ⟨⟨a0, a1, a2, a3, a4, a5⟩, rfl, h0, wf64 h1, wf64 h2, wf64 h3, h4, h5⟩
set_option maxRecDepth 100000 in
theorem tq37_6 (xs : List V) (h : Typed Tryd.prog 6 37 xs) : ∃ q : MZone, xs = mZoneV q ∧ q.ok := by
  obtain ⟨y0, z0, rfl, t0, y1, z1, rfl, t1, rfl⟩ := typed_struct Tryd.underlying37 h
  obtain ⟨a0, rfl, h0⟩ := typed_str Tryd.underlying9 t0
  obtain ⟨a1, rfl, h1⟩ := typed_list Tryd.underlying35 (f := recV) (z := 6) (by kernel_rfl) tq126_4 t1
  exact ⟨⟨a0, a1⟩, rfl, h0, h1⟩
set_option maxRecDepth 100000 in
theorem tq121_6 (xs : List V) (h : Typed Tryd.prog 6 121 xs) : ∃ q : MPost, xs = mPostV q ∧ q.ok := by
  obtain ⟨y0, z0, rfl, t0, y1, z1, rfl, t1, rfl⟩ := typed_struct Tryd.underlying121 h
  obtain ⟨a0, rfl, h0⟩ := typed_int Tryd.underlying3 t0
  obtain ⟨a1, rfl, h1⟩ := typed_str Tryd.underlying9 t1
  exact ⟨⟨a0, a1⟩, rfl, wf64 h0, h1⟩
set_option maxRecDepth 100000 in
theorem tq25_8 (xs : List V) (h : Typed Tryd.prog 8 25 xs) : ∃ q : MForest, xs = mForestV q ∧ q.ok := by
  obtain ⟨y0, z0, rfl, t0, y1, z1, rfl, t1, rfl⟩ := typed_struct Tryd.underlying25 h
  obtain ⟨a0, rfl, h0⟩ := typed_list Tryd.underlying22 (f := mZoneV) (z := 2) (by kernel_rfl) tq37_6 t0
  obtain ⟨a1, rfl, h1⟩ := typed_list Tryd.underlying23 (f := mPostV) (z := 2) (by kernel_rfl) tq121_6 t1
  exact ⟨⟨a0, a1⟩, rfl, h0, h1⟩
set_option maxRecDepth 100000 in
theorem tq39_8 (xs : List V) (h : Typed Tryd.prog 8 39 xs) : ∃ q : Quest, xs = questV q ∧ q.ok := by
  obtain ⟨y0, z0, rfl, t0, y1, z1, rfl, t1, rfl⟩ := typed_struct Tryd.underlying39 h
  obtain ⟨a0, rfl, h0⟩ := typed_str Tryd.underlying9 t0
  obtain ⟨a1, rfl, h1⟩ := typed_int Tryd.underlying3 t1
  exact ⟨⟨a0, a1⟩, rfl, h0, wf64 h1⟩
end Go.Abs.M
namespace Go.Proofs.YtepbpkfchioicaaDoor.fnExactFactOf
open Go.ChangeShapes Go.WideShapes Go.ChangeAt Go.RowKit Go.Abs Go.Abs.M
theorem own : ownKnob Tryd.prog.godebug = none := by kernel_rfl
theorem laidOut : laidOutB Tryd.prog = true := by kernel_rfl
def laidL : List (String × DataW Unit) := [("unicode/utf8.acceptRanges", Rows.laid_unicode_utf8_acceptRanges), ("unicode/utf8.first", Rows.laid_unicode_utf8_first)]
set_option maxRecDepth 100000 in
set_option maxHeartbeats 1000000 in
theorem lifted (os : Os) (started : os.Started) (H : Type) (enc : TypeId × Value → H) :
    ReturnsInHanded {} Tryd.checked os 14 .any (fun w args => (Rows.fnExactFactOfSpec.pre enc Tryd.prog Tryd.f14 [] false w args ∧ laidMetH Tryd.prog laidL w) ∧ sizedMet enc Tryd.prog Tryd.f14 (OpenSpec.ofChange Rows.fnExactFactOfSpec) false w args) (Rows.fnExactFactOfSpec.post enc Tryd.prog Tryd.f14 false true false false) := by
  refine returnsInHanded_of_change_and (C := Tryd.checked) (X := fun w _ => laidMetH Tryd.prog laidL w) (fun _ _ _ hh h => h.of_heap hh) own started (by kernel_rfl) Tryd.func14
    (ChangeSpec.witness_shaped (enc := enc) (C := Tryd.checked) (os := os) (X := fun w _ => laidMetH Tryd.prog laidL w) false (World.laidAll Tryd.prog os laidL) #[.agg #[.slice none 0 0, .slice none 0 0], .agg #[.string ⟨#[]⟩, .int .i64 0]] 8 (World.laidAll_os _ _ _)
      (World.shaped_of_ZipB (by kernel_rfl) (by kernel_rfl)) (by kernel_rfl) (by kernel_rfl) (by kernel_rfl)
      (by rw [MakeChecks.laidMetH_plain _ _ _ (by kernel_rfl)]; exact laidMet_laidAll _ (by kernel_rfl) (by kernel_rfl))) ?_
  intro W base args ds gs before hval0 hW _ _ _ _
  have hval : ∀ (j : Nat) t v, Tryd.f14.params[j]? = some t → args[j]? = some v → Value.okWide Tryd.prog W .any base t v := hval0
  have hW' := hW
  obtain ⟨p, q, hA0, hV, rfl, hfz, hnd⟩ := hW
  have hA : DataW.TrodAll enc Tryd.prog W 0 (fun _ => true) true Tryd.f14.params.toList args.toList ds p := hA0
  have hltp := hA.lt
  rw [Tryd.params14] at hA hval
  obtain ⟨v0, vs0, d0, ds0, p0, q0, hargs, rfl, rfl, h0, s0⟩ := trodAll_cons hA
  obtain ⟨v1, vs1, d1, ds1, p1, q1, rfl, rfl, rfl, h1, s1⟩ := trodAll_cons s0
  obtain ⟨rfl, rfl, rfl⟩ := trodAll_nil s1
  obtain rfl : args = #[v0, v1] := by cases args; simp_all
  obtain ⟨rfl, rfl⟩ := trodVars_none hV
  obtain ⟨x0, e0, t0⟩ := trod_arg 8 (by kernel_rfl) (hval 0 25 v0 rfl rfl) h0
  obtain ⟨x1, e1, t1⟩ := trod_arg 8 (by kernel_rfl) (hval 1 39 v1 rfl rfl) h1
  obtain ⟨xs0, rfl, u0⟩ := argTy_struct Tryd.underlying25 t0
  obtain ⟨a0, rfl, k0⟩ := tq25_8 _ u0
  obtain ⟨xs1, rfl, u1⟩ := argTy_struct Tryd.underlying39 t1
  obtain ⟨a1, rfl, k1⟩ := tq39_8 _ u1
  refine (law_calls (ww_FnExactFactOf a0 a1 true (law_FactOf k0 k1)) rfl (fun i x v hx hv => ?_)).mono fun e W' ⟨he, bel⟩ => ?_
  · match i, hx, hv with
    | 0, hx, hv => cases hx; cases hv; exact e0
    | 1, hx, hv => cases hx; cases hv; exact e1
  · subst he
    exact ⟨_, rfl, _, _, _, [], _, [], hW', trodAll_mk1 (shut_bool Tryd.underlying4 _), (trodAll_cons_mk (Below.trod laidOut (by kernel_rfl) (of_decide_eq_true (by kernel_rfl)) h0 bel (fun x hx => hltp x (by simp [hx]))) (trodAll_cons_mk (Below.trod laidOut (by kernel_rfl) (of_decide_eq_true (by kernel_rfl)) h1 bel (fun x hx => hltp x (by simp [hx]))) trodAll_mk0)), rfl, bel.frame _, fun h => by cases h⟩
theorem over : Rows.fnExactFactOfRow.holds Tryd.pinned (OpenSpec.ofChange Rows.fnExactFactOfSpec) :=
  OpenClaim.holds_of_wide 14 Tryd.f14 rfl rfl rfl rfl rfl rfl rfl ⟨rfl, rfl, rfl, rfl, rfl⟩ rfl rfl rfl rfl rfl (by kernel_rfl) Tryd.func14 (by kernel_rfl)
    (of_decide_eq_true (by kernel_rfl)) (by unfold Func.isWrapper; first | (rw [if_pos (by decide +kernel)]; kernel_rfl) | (rw [if_neg (by decide +kernel)]; exact ⟨rfl, rfl⟩))
    (fun os started H enc _ => lifted os started H enc)
theorem card : Rows.FnExactFactOfCardSaid :=
  Claim7.holds_tied_plain_at .later [] [.data, .pinned] true (true, "aba22e9863321b1f953d434fa85994bf258661f2cb7dde9aa07464fe50a364ef") false over (fun _ h => by cases h) (by kernel_rfl) (fun _ h => by cases h) fnExactFactOf_row_tie rfl ⟨rfl, rfl⟩ (by kernel_rfl) rfl
    (fun f fn hf hfn => by
      obtain rfl : f = 14 := Option.some.inj ((show Tryd.prog.funcNamed "loop.example/g00497/laws.FnExactFactOf" = some 14 by kernel_rfl).symm.trans hf) |>.symm
      obtain rfl : fn = Tryd.f14 := (Option.some.inj (Tryd.func14.symm.trans hfn)).symm
      exact ⟨by kernel_rfl, fun j t ht => by
        rw [Tryd.params14] at ht
        have hm : t ∈ [25, 39] := by simpa using Array.mem_of_getElem? ht
        have hall : ([25, 39].all fun u => !Tryd.prog.wantsStandIn u) = true := by kernel_rfl
        exact (show Tryd.prog.wantsStandIn t = false by simpa using List.all_eq_true.1 hall t hm)⟩)
    (by kernel_rfl)
end Go.Proofs.YtepbpkfchioicaaDoor.fnExactFactOf
namespace Go.Proofs.YtepbpkfchioicaaDoor
/-- The card, under a short name, for the claim. -/
theorem fnExactFactOf_holds : Rows.FnExactFactOfCardSaid := fnExactFactOf.card
end Go.Proofs.YtepbpkfchioicaaDoor
