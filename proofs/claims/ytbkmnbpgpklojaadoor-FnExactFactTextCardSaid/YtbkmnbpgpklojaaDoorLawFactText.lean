/- The row of FnExactFactText: for every input that the row admits the law returns true and its input reads as it did. No further condition. -/
import Derived.Test.YtbkmnbpgpklojaaDoorWalkFactText1
import Derived.Test.YtbkmnbpgpklojaaDoorPureFactText
import Derived.Test.YtbkmnbpgpklojaaDoorRows
import Derived.Test.YtbkmnbpgpklojaaDoorAbsB3
import Derived.Test.YtbkmnbpgpklojaaDoorAbsB4
import Derived.WalkKit
import Derived.ProofKit
import Derived.OpenShut
import Derived.ShutString
import Derived.ChangeOld
import Derived.Below
import Derived.Carry
import Derived.SizedLaws
import Derived.Test.YtbkmnbpgpklojaaDoorTie
import Derived.Test.YtbkmnbpgpklojaaDoorCards
import Derived.Handed
import Derived.Lay
import Derived.LaidOnce
import Derived.SevenTiedAt
import Derived.LaidMore
import Derived.Stop.Joined
namespace Go.Abs.M
open Go Go.Abs Go.Proofs
set_option maxRecDepth 100000 in
theorem tq150_6 (xs : List V) (h : Typed Tryd.prog 6 150 xs) : ∃ q : Rec, xs = recV q ∧ q.ok := by
  obtain ⟨y0, z0, rfl, t0, y1, z1, rfl, t1, y2, z2, rfl, t2, y3, z3, rfl, t3, y4, z4, rfl, t4, y5, z5, rfl, t5, rfl⟩ := typed_struct Tryd.underlying150 h
  obtain ⟨a0, rfl, h0⟩ := typed_str Tryd.underlying9 t0
  obtain ⟨a1, rfl, h1⟩ := typed_int Tryd.underlying3 t1
  obtain ⟨a2, rfl, h2⟩ := typed_int Tryd.underlying3 t2
  obtain ⟨a3, rfl, h3⟩ := typed_int Tryd.underlying3 t3
  obtain ⟨a4, rfl, h4⟩ := typed_str Tryd.underlying9 t4
  obtain ⟨a5, rfl, h5⟩ := typed_str Tryd.underlying9 t5
  exact ⟨⟨a0, a1, a2, a3, a4, a5⟩, rfl, h0, wf64 h1, wf64 h2, wf64 h3, h4, h5⟩
set_option maxRecDepth 100000 in
theorem tq59_8 (xs : List V) (h : Typed Tryd.prog 8 59 xs) : ∃ q : MFact, xs = mFactV q ∧ q.ok := by
  obtain ⟨y0, z0, rfl, t0, y1, z1, rfl, t1, y2, z2, rfl, t2, y3, z3, rfl, t3, rfl⟩ := typed_struct Tryd.underlying59 h
  obtain ⟨a0, rfl, h0⟩ := typed_int Tryd.underlying3 t0
  obtain ⟨a1, rfl, h1⟩ := typed_list Tryd.underlying57 (f := recV) (z := 6) (by kernel_rfl) tq150_6 t1
  obtain ⟨a2, rfl, h2⟩ := typed_list Tryd.underlying57 (f := recV) (z := 6) (by kernel_rfl) tq150_6 t2
  obtain ⟨a3, rfl⟩ := typed_bool Tryd.underlying4 t3
  exact ⟨⟨a0, a1, a2, a3⟩, rfl, wf64 h0, h1, h2⟩
end Go.Abs.M
namespace Go.Proofs.YtbkmnbpgpklojaaDoor.fnExactFactText
open Go.ChangeShapes Go.WideShapes Go.ChangeAt Go.RowKit Go.Abs Go.Abs.M
theorem own : ownKnob Tryd.prog.godebug = none := by kernel_rfl
theorem laidOut : laidOutB Tryd.prog = true := by kernel_rfl
def laidL : List (String × DataW Unit) := [("unicode/utf8.acceptRanges", Rows.laid_unicode_utf8_acceptRanges), ("unicode/utf8.first", Rows.laid_unicode_utf8_first)]
set_option maxRecDepth 100000 in
set_option maxHeartbeats 1000000 in
theorem lifted (os : Os) (started : os.Started) (H : Type) (enc : TypeId × Value → H) :
    ReturnsInHanded {} Tryd.checked os 5 .any (fun w args => (Rows.fnExactFactTextSpec.pre enc Tryd.prog Tryd.f5 [] false w args ∧ laidMetH Tryd.prog laidL w) ∧ sizedMet enc Tryd.prog Tryd.f5 (OpenSpec.ofChange Rows.fnExactFactTextSpec) false w args) (Rows.fnExactFactTextSpec.post enc Tryd.prog Tryd.f5 false true false false) := by
  refine returnsInHanded_of_change_and (C := Tryd.checked) (X := fun w _ => laidMetH Tryd.prog laidL w) (fun _ _ _ hh h => h.of_heap hh) own started (by kernel_rfl) Tryd.func5
    (ChangeSpec.witness_shaped (enc := enc) (C := Tryd.checked) (os := os) (X := fun w _ => laidMetH Tryd.prog laidL w) false (World.laidAll Tryd.prog os laidL) #[.agg #[.int .i64 0, .slice none 0 0, .slice none 0 0, .bool false]] 8 (World.laidAll_os _ _ _)
      (World.shaped_of_ZipB (by kernel_rfl) (by kernel_rfl)) (by kernel_rfl) (by kernel_rfl) (by kernel_rfl)
      (by rw [MakeChecks.laidMetH_plain _ _ _ (by kernel_rfl)]; exact laidMet_laidAll _ (by kernel_rfl) (by kernel_rfl))) ?_
  intro W base args ds gs before hval0 hW _ _ _ _
  have hval : ∀ (j : Nat) t v, Tryd.f5.params[j]? = some t → args[j]? = some v → Value.okWide Tryd.prog W .any base t v := hval0
  have hW' := hW
  obtain ⟨p, q, hA0, hV, rfl, hfz, hnd⟩ := hW
  have hA : DataW.TrodAll enc Tryd.prog W 0 (fun _ => true) true Tryd.f5.params.toList args.toList ds p := hA0
  have hltp := hA.lt
  rw [Tryd.params5] at hA hval
  obtain ⟨v0, vs0, d0, ds0, p0, q0, hargs, rfl, rfl, h0, s0⟩ := trodAll_cons hA
  obtain ⟨rfl, rfl, rfl⟩ := trodAll_nil s0
  obtain rfl : args = #[v0] := by cases args; simp_all
  obtain ⟨rfl, rfl⟩ := trodVars_none hV
  obtain ⟨x0, e0, t0⟩ := trod_arg 8 (by kernel_rfl) (hval 0 59 v0 rfl rfl) h0
  obtain ⟨xs0, rfl, u0⟩ := argTy_struct Tryd.underlying59 t0
  obtain ⟨a0, rfl, k0⟩ := tq59_8 _ u0
  refine (law_calls (ww_FnExactFactText a0 true (law_FactText k0)) rfl (fun i x v hx hv => ?_)).mono fun e W' ⟨he, bel⟩ => ?_
  · match i, hx, hv with
    | 0, hx, hv => cases hx; cases hv; exact e0
  · subst he
    exact ⟨_, rfl, _, _, _, [], _, [], hW', trodAll_mk1 (shut_bool Tryd.underlying4 _), (trodAll_cons_mk (Below.trod laidOut (by kernel_rfl) (of_decide_eq_true (by kernel_rfl)) h0 bel (fun x hx => hltp x (by simp [hx]))) trodAll_mk0), rfl, bel.frame _, fun h => by cases h⟩
theorem over : Rows.fnExactFactTextRow.holds Tryd.pinned (OpenSpec.ofChange Rows.fnExactFactTextSpec) :=
  OpenClaim.holds_of_wide 5 Tryd.f5 rfl rfl rfl rfl rfl rfl rfl ⟨rfl, rfl, rfl, rfl, rfl⟩ rfl rfl rfl rfl rfl (by kernel_rfl) Tryd.func5 (by kernel_rfl)
    (of_decide_eq_true (by kernel_rfl)) (by unfold Func.isWrapper; first | (rw [if_pos (by decide +kernel)]; kernel_rfl) | (rw [if_neg (by decide +kernel)]; exact ⟨rfl, rfl⟩))
    (fun os started H enc _ => lifted os started H enc)
theorem card : Rows.FnExactFactTextCardSaid :=
  Claim7.holds_tied_plain_at .later [] [.data, .pinned] true (true, "af1cf9464fca2b1bb791a0140b0fc934fbb0941d7507bd942cdd8c497edaf840") false over (fun _ h => by cases h) (by kernel_rfl) (fun _ h => by cases h) fnExactFactText_row_tie rfl ⟨rfl, rfl⟩ (by kernel_rfl) rfl
    (fun f fn hf hfn => by
      obtain rfl : f = 5 := Option.some.inj ((show Tryd.prog.funcNamed "loop.example/g00497/laws.FnExactFactText" = some 5 by kernel_rfl).symm.trans hf) |>.symm
      obtain rfl : fn = Tryd.f5 := (Option.some.inj (Tryd.func5.symm.trans hfn)).symm
      exact ⟨by kernel_rfl, fun j t ht => by
        rw [Tryd.params5] at ht
        have hm : t ∈ [59] := by simpa using Array.mem_of_getElem? ht
        have hall : ([59].all fun u => !Tryd.prog.wantsStandIn u) = true := by kernel_rfl
        exact (show Tryd.prog.wantsStandIn t = false by simpa using List.all_eq_true.1 hall t hm)⟩)
    (by kernel_rfl)
end Go.Proofs.YtbkmnbpgpklojaaDoor.fnExactFactText
namespace Go.Proofs.YtbkmnbpgpklojaaDoor
/-- The card, under a short name, for the claim. -/
theorem fnExactFactText_holds : Rows.FnExactFactTextCardSaid := fnExactFactText.card
end Go.Proofs.YtbkmnbpgpklojaaDoor
