/- The row of FnExactFits: for every input that the row admits the law returns true and its input reads as it did. No further condition. -/
import Derived.Test.YtainnoaellcpdaaGreatDoorWalkFits2
import Derived.Test.YtainnoaellcpdaaGreatDoorPureFits
import Derived.Test.YtainnoaellcpdaaGreatDoorRows
import Derived.Test.YtainnoaellcpdaaGreatDoorAbsB3
import Derived.Test.YtainnoaellcpdaaGreatDoorAbsB4
import Derived.WalkKit
import Derived.ProofKit
import Derived.OpenShut
import Derived.ShutString
import Derived.ChangeOld
import Derived.Below
import Derived.Carry
import Derived.SizedLaws
import Derived.Test.YtainnoaellcpdaaGreatDoorTie
import Derived.Test.YtainnoaellcpdaaGreatDoorCards
import Derived.Handed
import Derived.Lay
import Derived.LaidOnce
import Derived.SevenTiedAt
import Derived.LaidMore
import Derived.Stop.Joined
namespace Go.Abs.M
open Go Go.Abs Go.Proofs
set_option maxRecDepth 100000 in
theorem tq44_7 (xs : List V) (h : Typed Tryz.prog 7 44 xs) : ∃ q : Quest, xs = questV q ∧ q.ok := by
  obtain ⟨y0, z0, rfl, t0, y1, z1, rfl, t1, rfl⟩ := typed_struct Tryz.underlying44 h
  obtain ⟨a0, rfl, h0⟩ := typed_str Tryz.underlying9 t0
  obtain ⟨a1, rfl, h1⟩ := typed_int Tryz.underlying3 t1
  exact ⟨⟨a0, a1⟩, rfl, h0, wf64 h1⟩
set_option maxRecDepth 100000 in
theorem tq109_6 (xs : List V) (h : Typed Tryz.prog 6 109 xs) : ∃ q : Rec, xs = recV q ∧ q.ok := by
  obtain ⟨y0, z0, rfl, t0, y1, z1, rfl, t1, y2, z2, rfl, t2, y3, z3, rfl, t3, y4, z4, rfl, t4, y5, z5, rfl, t5, rfl⟩ := typed_struct Tryz.underlying109 h
  obtain ⟨a0, rfl, h0⟩ := typed_str Tryz.underlying9 t0
  obtain ⟨a1, rfl, h1⟩ := typed_int Tryz.underlying3 t1
  obtain ⟨a2, rfl, h2⟩ := typed_int Tryz.underlying3 t2
  obtain ⟨a3, rfl, h3⟩ := typed_int Tryz.underlying3 t3
  obtain ⟨a4, rfl, h4⟩ := typed_str Tryz.underlying9 t4
  obtain ⟨a5, rfl, h5⟩ := typed_str Tryz.underlying9 t5
  exact ⟨⟨a0, a1, a2, a3, a4, a5⟩, rfl, h0, wf64 h1, wf64 h2, wf64 h3, h4, h5⟩
set_option maxRecDepth 100000 in
theorem tq47_8 (xs : List V) (h : Typed Tryz.prog 8 47 xs) : ∃ q : MMsg, xs = mMsgV q ∧ q.ok := by
  obtain ⟨y0, z0, rfl, t0, y1, z1, rfl, t1, y2, z2, rfl, t2, y3, z3, rfl, t3, y4, z4, rfl, t4, y5, z5, rfl, t5, y6, z6, rfl, t6, y7, z7, rfl, t7, y8, z8, rfl, t8, y9, z9, rfl, t9, y10, z10, rfl, t10, rfl⟩ := typed_struct Tryz.underlying47 h
  obtain ⟨a0, rfl, h0⟩ := typed_int Tryz.underlying3 t0
  obtain ⟨a1, rfl⟩ := typed_bool Tryz.underlying4 t1
  obtain ⟨a2, rfl⟩ := typed_bool Tryz.underlying4 t2
  obtain ⟨a3, rfl⟩ := typed_bool Tryz.underlying4 t3
  obtain ⟨a4, rfl⟩ := typed_bool Tryz.underlying4 t4
  obtain ⟨a5, rfl⟩ := typed_bool Tryz.underlying4 t5
  obtain ⟨a6, rfl, h6⟩ := typed_int Tryz.underlying3 t6
  obtain ⟨a7, rfl, h7⟩ := tq44_7 _ t7
  obtain ⟨a8, rfl, h8⟩ := typed_list Tryz.underlying45 (f := recV) (z := 6) (by kernel_rfl) tq109_6 t8
  obtain ⟨a9, rfl, h9⟩ := typed_list Tryz.underlying45 (f := recV) (z := 6) (by kernel_rfl) tq109_6 t9
  obtain ⟨a10, rfl, h10⟩ := typed_list Tryz.underlying45 (f := recV) (z := 6) (by kernel_rfl) tq109_6 t10
  exact ⟨⟨a0, a1, a2, a3, a4, a5, a6, a7, a8, a9, a10⟩, rfl, wf64 h0, wf64 h6, h7, h8, h9, h10⟩
end Go.Abs.M
namespace Go.Proofs.YtainnoaellcpdaaGreatDoor.fnExactFits
open Go.ChangeShapes Go.WideShapes Go.ChangeAt Go.RowKit Go.Abs Go.Abs.M
theorem own : ownKnob Tryz.prog.godebug = none := by kernel_rfl
theorem laidOut : laidOutB Tryz.prog = true := by kernel_rfl
def laidL : List (String × DataW Unit) := [("unicode/utf8.acceptRanges", Rows.laid_unicode_utf8_acceptRanges), ("unicode/utf8.first", Rows.laid_unicode_utf8_first)]
set_option maxRecDepth 100000 in
set_option maxHeartbeats 1000000 in
theorem lifted (os : Os) (started : os.Started) (H : Type) (enc : TypeId × Value → H) :
    ReturnsInHanded {} Tryz.checked os 6 .any (fun w args => (Rows.fnExactFitsSpec.pre enc Tryz.prog Tryz.f6 [] false w args ∧ laidMetH Tryz.prog laidL w) ∧ sizedMet enc Tryz.prog Tryz.f6 (OpenSpec.ofChange Rows.fnExactFitsSpec) false w args) (Rows.fnExactFitsSpec.post enc Tryz.prog Tryz.f6 false true false false) := by
  refine returnsInHanded_of_change_and (C := Tryz.checked) (X := fun w _ => laidMetH Tryz.prog laidL w) (fun _ _ _ hh h => h.of_heap hh) own started (by kernel_rfl) Tryz.func6
    (ChangeSpec.witness_shaped (enc := enc) (C := Tryz.checked) (os := os) (X := fun w _ => laidMetH Tryz.prog laidL w) false (World.laidAll Tryz.prog os laidL) #[.agg #[.int .i64 0, .bool false, .bool false, .bool false, .bool false, .bool false, .int .i64 0, .string ⟨#[]⟩, .int .i64 0, .slice none 0 0, .slice none 0 0, .slice none 0 0]] 8 (World.laidAll_os _ _ _)
      (World.shaped_of_ZipB (by kernel_rfl) (by kernel_rfl)) (by kernel_rfl) (by kernel_rfl) (by kernel_rfl)
      (by rw [MakeChecks.laidMetH_plain _ _ _ (by kernel_rfl)]; exact laidMet_laidAll _ (by kernel_rfl) (by kernel_rfl))) ?_
  intro W base args ds gs before hval0 hW _ _ _ _
  have hval : ∀ (j : Nat) t v, Tryz.f6.params[j]? = some t → args[j]? = some v → Value.okWide Tryz.prog W .any base t v := hval0
  have hW' := hW
  obtain ⟨p, q, hA0, hV, rfl, hfz, hnd⟩ := hW
  have hA : DataW.TrodAll enc Tryz.prog W 0 (fun _ => true) true Tryz.f6.params.toList args.toList ds p := hA0
  have hltp := hA.lt
  rw [Tryz.params6] at hA hval
  obtain ⟨v0, vs0, d0, ds0, p0, q0, hargs, rfl, rfl, h0, s0⟩ := trodAll_cons hA
  obtain ⟨rfl, rfl, rfl⟩ := trodAll_nil s0
  obtain rfl : args = #[v0] := by cases args; simp_all
  obtain ⟨rfl, rfl⟩ := trodVars_none hV
  obtain ⟨x0, e0, t0⟩ := trod_arg 8 (by kernel_rfl) (hval 0 47 v0 rfl rfl) h0
  obtain ⟨xs0, rfl, u0⟩ := argTy_struct Tryz.underlying47 t0
  obtain ⟨a0, rfl, k0⟩ := tq47_8 _ u0
  refine (law_calls (ww_FnExactFits a0 true (law_Fits k0)) rfl (fun i x v hx hv => ?_)).mono fun e W' ⟨he, bel⟩ => ?_
  · match i, hx, hv with
    | 0, hx, hv => cases hx; cases hv; exact e0
  · subst he
    exact ⟨_, rfl, _, _, _, [], _, [], hW', trodAll_mk1 (shut_bool Tryz.underlying4 _), (trodAll_cons_mk (Below.trod laidOut (by kernel_rfl) (of_decide_eq_true (by kernel_rfl)) h0 bel (fun x hx => hltp x (by simp [hx]))) trodAll_mk0), rfl, bel.frame _, fun h => by cases h⟩
theorem over : Rows.fnExactFitsRow.holds Tryz.pinned (OpenSpec.ofChange Rows.fnExactFitsSpec) :=
  OpenClaim.holds_of_wide 6 Tryz.f6 rfl rfl rfl rfl rfl rfl rfl ⟨rfl, rfl, rfl, rfl, rfl⟩ rfl rfl rfl rfl rfl (by kernel_rfl) Tryz.func6 (by kernel_rfl)
    (of_decide_eq_true (by kernel_rfl)) (by unfold Func.isWrapper; first | (rw [if_pos (by decide +kernel)]; kernel_rfl) | (rw [if_neg (by decide +kernel)]; exact ⟨rfl, rfl⟩))
    (fun os started H enc _ => lifted os started H enc)
theorem card : Rows.FnExactFitsCardSaid :=
  Claim7.holds_tied_plain_at .later [] [.data, .pinned] true (true, "d4f08c89fbfa46e5c76db273f6ae3f99c740fe98f45bca1a9cde2fc8f6d3c739") false over (fun _ h => by cases h) (by kernel_rfl) (fun _ h => by cases h) fnExactFits_row_tie rfl ⟨rfl, rfl⟩ (by kernel_rfl) rfl
    (fun f fn hf hfn => by
      obtain rfl : f = 6 := Option.some.inj ((show Tryz.prog.funcNamed "loop.example/g00497/laws.FnExactFits" = some 6 by kernel_rfl).symm.trans hf) |>.symm
      obtain rfl : fn = Tryz.f6 := (Option.some.inj (Tryz.func6.symm.trans hfn)).symm
      exact ⟨by kernel_rfl, fun j t ht => by
        rw [Tryz.params6] at ht
        have hm : t ∈ [47] := by simpa using Array.mem_of_getElem? ht
        have hall : ([47].all fun u => !Tryz.prog.wantsStandIn u) = true := by kernel_rfl
        exact (show Tryz.prog.wantsStandIn t = false by simpa using List.all_eq_true.1 hall t hm)⟩)
    (by kernel_rfl)
end Go.Proofs.YtainnoaellcpdaaGreatDoor.fnExactFits
namespace Go.Proofs.YtainnoaellcpdaaGreatDoor
/-- The card, under a short name, for the claim. -/
theorem fnExactFits_holds : Rows.FnExactFitsCardSaid := fnExactFits.card
end Go.Proofs.YtainnoaellcpdaaGreatDoor
