/- The row of FnExactKeep: for every input that the row admits the law returns true and its input reads as it did. No further condition. -/
import Derived.Test.YtcdpmfnjajjlkaaDoorWalkKeep2
import Derived.Test.YtcdpmfnjajjlkaaDoorPureKeep
import Derived.Test.YtcdpmfnjajjlkaaDoorRows
import Derived.Test.YtcdpmfnjajjlkaaDoorAbsB3
import Derived.Test.YtcdpmfnjajjlkaaDoorAbsB4
import Derived.WalkKit
import Derived.ProofKit
import Derived.OpenShut
import Derived.ShutString
import Derived.ChangeOld
import Derived.Below
import Derived.Carry
import Derived.SizedLaws
import Derived.Test.YtcdpmfnjajjlkaaDoorTie
import Derived.Test.YtcdpmfnjajjlkaaDoorCards
import Derived.Handed
import Derived.Lay
import Derived.LaidOnce
import Derived.SevenTiedAt
import Derived.LaidMore
import Derived.Stop.Joined
namespace Go.Abs.M
open Go Go.Abs Go.Proofs
set_option maxRecDepth 100000 in
theorem tq23_5 (xs : List V) (h : Typed Tryd.prog 5 23 xs) : ∃ q : Quest, xs = questV q ∧ q.ok := by
  obtain ⟨y0, z0, rfl, t0, y1, z1, rfl, t1, rfl⟩ := typed_struct Tryd.underlying23 h
  obtain ⟨a0, rfl, h0⟩ := typed_str Tryd.underlying9 t0
  obtain ⟨a1, rfl, h1⟩ := typed_int Tryd.underlying3 t1
  exact ⟨⟨a0, a1⟩, rfl, h0, wf64 h1⟩
set_option maxRecDepth 100000 in
theorem tq105_4 (xs : List V) (h : Typed Tryd.prog 4 105 xs) : ∃ q : Rec, xs = recV q ∧ q.ok := by
  obtain ⟨y0, z0, rfl, t0, y1, z1, rfl, t1, y2, z2, rfl, t2, y3, z3, rfl, t3, y4, z4, rfl, t4, y5, z5, rfl, t5, rfl⟩ := typed_struct Tryd.underlying105 h
  obtain ⟨a0, rfl, h0⟩ := typed_str Tryd.underlying9 t0
  obtain ⟨a1, rfl, h1⟩ := typed_int Tryd.underlying3 t1
  obtain ⟨a2, rfl, h2⟩ := typed_int Tryd.underlying3 t2
  obtain ⟨a3, rfl, h3⟩ := typed_int Tryd.underlying3 t3
  obtain ⟨a4, rfl, h4⟩ := typed_str Tryd.underlying9 t4
  obtain ⟨a5, rfl, h5⟩ := typed_str Tryd.underlying9 t5
  exact ⟨⟨a0, a1, a2, a3, a4, a5⟩, rfl, h0, wf64 h1, wf64 h2, wf64 h3, h4, h5⟩
set_option maxRecDepth 100000 in
theorem tq26_6 (xs : List V) (h : Typed Tryd.prog 6 26 xs) : ∃ q : MEntry, xs = mEntryV q ∧ q.ok := by
  obtain ⟨y0, z0, rfl, t0, y1, z1, rfl, t1, y2, z2, rfl, t2, y3, z3, rfl, t3, y4, z4, rfl, t4, rfl⟩ := typed_struct Tryd.underlying26 h
  obtain ⟨a0, rfl, h0⟩ := tq23_5 _ t0
  obtain ⟨a1, rfl, h1⟩ := typed_int Tryd.underlying3 t1
  obtain ⟨a2, rfl, h2⟩ := typed_list Tryd.underlying24 (f := recV) (z := 6) (by kernel_rfl) tq105_4 t2
  obtain ⟨a3, rfl, h3⟩ := typed_int Tryd.underlying3 t3
  obtain ⟨a4, rfl, h4⟩ := typed_int Tryd.underlying3 t4
  exact ⟨⟨a0, a1, a2, a3, a4⟩, rfl, h0, wf64 h1, h2, wf64 h3, wf64 h4⟩
set_option maxRecDepth 100000 in
theorem tq38_8 (xs : List V) (h : Typed Tryd.prog 8 38 xs) : ∃ q : MCache, xs = mCacheV q ∧ q.ok := by
  obtain ⟨y0, z0, rfl, t0, y1, z1, rfl, t1, rfl⟩ := typed_struct Tryd.underlying38 h
  obtain ⟨a0, rfl, h0⟩ := typed_int Tryd.underlying3 t0
  obtain ⟨a1, rfl, h1⟩ := typed_list Tryd.underlying36 (f := mEntryV) (z := 6) (by kernel_rfl) tq26_6 t1
  exact ⟨⟨a0, a1⟩, rfl, wf64 h0, h1⟩
set_option maxRecDepth 100000 in
theorem tq23_7 (xs : List V) (h : Typed Tryd.prog 7 23 xs) : ∃ q : Quest, xs = questV q ∧ q.ok := by
  obtain ⟨y0, z0, rfl, t0, y1, z1, rfl, t1, rfl⟩ := typed_struct Tryd.underlying23 h
  obtain ⟨a0, rfl, h0⟩ := typed_str Tryd.underlying9 t0
  obtain ⟨a1, rfl, h1⟩ := typed_int Tryd.underlying3 t1
  exact ⟨⟨a0, a1⟩, rfl, h0, wf64 h1⟩
set_option maxRecDepth 100000 in
theorem tq105_6 (xs : List V) (h : Typed Tryd.prog 6 105 xs) : ∃ q : Rec, xs = recV q ∧ q.ok := by
  obtain ⟨y0, z0, rfl, t0, y1, z1, rfl, t1, y2, z2, rfl, t2, y3, z3, rfl, t3, y4, z4, rfl, t4, y5, z5, rfl, t5, rfl⟩ := typed_struct Tryd.underlying105 h
  obtain ⟨a0, rfl, h0⟩ := typed_str Tryd.underlying9 t0
  obtain ⟨a1, rfl, h1⟩ := typed_int Tryd.underlying3 t1
  obtain ⟨a2, rfl, h2⟩ := typed_int Tryd.underlying3 t2
  obtain ⟨a3, rfl, h3⟩ := typed_int Tryd.underlying3 t3
  obtain ⟨a4, rfl, h4⟩ := typed_str Tryd.underlying9 t4
  obtain ⟨a5, rfl, h5⟩ := typed_str Tryd.underlying9 t5
  exact ⟨⟨a0, a1, a2, a3, a4, a5⟩, rfl, h0, wf64 h1, wf64 h2, wf64 h3, h4, h5⟩
set_option maxRecDepth 100000 in
theorem tq26_8 (xs : List V) (h : Typed Tryd.prog 8 26 xs) : ∃ q : MEntry, xs = mEntryV q ∧ q.ok := by
  obtain ⟨y0, z0, rfl, t0, y1, z1, rfl, t1, y2, z2, rfl, t2, y3, z3, rfl, t3, y4, z4, rfl, t4, rfl⟩ := typed_struct Tryd.underlying26 h
  obtain ⟨a0, rfl, h0⟩ := tq23_7 _ t0
  obtain ⟨a1, rfl, h1⟩ := typed_int Tryd.underlying3 t1
  obtain ⟨a2, rfl, h2⟩ := typed_list Tryd.underlying24 (f := recV) (z := 6) (by kernel_rfl) tq105_6 t2
  obtain ⟨a3, rfl, h3⟩ := typed_int Tryd.underlying3 t3
  obtain ⟨a4, rfl, h4⟩ := typed_int Tryd.underlying3 t4
  exact ⟨⟨a0, a1, a2, a3, a4⟩, rfl, h0, wf64 h1, h2, wf64 h3, wf64 h4⟩
end Go.Abs.M
namespace Go.Proofs.YtcdpmfnjajjlkaaDoor.fnExactKeep
open Go.ChangeShapes Go.WideShapes Go.ChangeAt Go.RowKit Go.Abs Go.Abs.M
theorem own : ownKnob Tryd.prog.godebug = none := by kernel_rfl
theorem laidOut : laidOutB Tryd.prog = true := by kernel_rfl
def laidL : List (String × DataW Unit) := [("unicode/utf8.acceptRanges", Rows.laid_unicode_utf8_acceptRanges), ("unicode/utf8.first", Rows.laid_unicode_utf8_first)]
set_option maxRecDepth 100000 in
set_option maxHeartbeats 1000000 in
theorem lifted (os : Os) (started : os.Started) (H : Type) (enc : TypeId × Value → H) :
    ReturnsInHanded {} Tryd.checked os 8 .any (fun w args => (Rows.fnExactKeepSpec.pre enc Tryd.prog Tryd.f8 [] false w args ∧ laidMetH Tryd.prog laidL w) ∧ sizedMet enc Tryd.prog Tryd.f8 (OpenSpec.ofChange Rows.fnExactKeepSpec) false w args) (Rows.fnExactKeepSpec.post enc Tryd.prog Tryd.f8 false true false false) := by
  refine returnsInHanded_of_change_and (C := Tryd.checked) (X := fun w _ => laidMetH Tryd.prog laidL w) (fun _ _ _ hh h => h.of_heap hh) own started (by kernel_rfl) Tryd.func8
    (ChangeSpec.witness_shaped (enc := enc) (C := Tryd.checked) (os := os) (X := fun w _ => laidMetH Tryd.prog laidL w) false (World.laidAll Tryd.prog os laidL) #[.agg #[.int .i64 0, .slice none 0 0], .int .i64 0, .agg #[.string ⟨#[]⟩, .int .i64 0, .int .i64 0, .slice none 0 0, .int .i64 0, .int .i64 0]] 8 (World.laidAll_os _ _ _)
      (World.shaped_of_ZipB (by kernel_rfl) (by kernel_rfl)) (by kernel_rfl) (by kernel_rfl) (by kernel_rfl)
      (by rw [MakeChecks.laidMetH_plain _ _ _ (by kernel_rfl)]; exact laidMet_laidAll _ (by kernel_rfl) (by kernel_rfl))) ?_
  intro W base args ds gs before hval0 hW _ _ _ _
  have hval : ∀ (j : Nat) t v, Tryd.f8.params[j]? = some t → args[j]? = some v → Value.okWide Tryd.prog W .any base t v := hval0
  have hW' := hW
  obtain ⟨p, q, hA0, hV, rfl, hfz, hnd⟩ := hW
  have hA : DataW.TrodAll enc Tryd.prog W 0 (fun _ => true) true Tryd.f8.params.toList args.toList ds p := hA0
  have hltp := hA.lt
  rw [Tryd.params8] at hA hval
  obtain ⟨v0, vs0, d0, ds0, p0, q0, hargs, rfl, rfl, h0, s0⟩ := trodAll_cons hA
  obtain ⟨v1, vs1, d1, ds1, p1, q1, rfl, rfl, rfl, h1, s1⟩ := trodAll_cons s0
  obtain ⟨v2, vs2, d2, ds2, p2, q2, rfl, rfl, rfl, h2, s2⟩ := trodAll_cons s1
  obtain ⟨rfl, rfl, rfl⟩ := trodAll_nil s2
  obtain rfl : args = #[v0, v1, v2] := by cases args; simp_all
  obtain ⟨rfl, rfl⟩ := trodVars_none hV
  obtain ⟨x0, e0, t0⟩ := trod_arg 8 (by kernel_rfl) (hval 0 38 v0 rfl rfl) h0
  obtain ⟨x1, e1, t1⟩ := trod_arg 8 (by kernel_rfl) (hval 1 3 v1 rfl rfl) h1
  obtain ⟨x2, e2, t2⟩ := trod_arg 8 (by kernel_rfl) (hval 2 26 v2 rfl rfl) h2
  obtain ⟨xs0, rfl, u0⟩ := argTy_struct Tryd.underlying38 t0
  obtain ⟨a0, rfl, k0⟩ := tq38_8 _ u0
  obtain ⟨a1, e1x, k1⟩ := typed_int Tryd.underlying3 (argTy_one (by rw [Tryd.underlying3]; intro fs q; cases q) t1)
  obtain rfl := (List.cons.inj e1x).1
  replace k1 := wf64 k1
  obtain ⟨xs2, rfl, u2⟩ := argTy_struct Tryd.underlying26 t2
  obtain ⟨a2, rfl, k2⟩ := tq26_8 _ u2
  refine (law_calls (ww_FnExactKeep a0 a1 a2 true (law_Keep k0 k1 k2)) rfl (fun i x v hx hv => ?_)).mono fun e W' ⟨he, bel⟩ => ?_
  · match i, hx, hv with
    | 0, hx, hv => cases hx; cases hv; exact e0
    | 1, hx, hv => cases hx; cases hv; exact e1
    | 2, hx, hv => cases hx; cases hv; exact e2
  · subst he
    exact ⟨_, rfl, _, _, _, [], _, [], hW', trodAll_mk1 (shut_bool Tryd.underlying4 _), (trodAll_cons_mk (Below.trod laidOut (by kernel_rfl) (of_decide_eq_true (by kernel_rfl)) h0 bel (fun x hx => hltp x (by simp [hx]))) (trodAll_cons_mk (Below.trod laidOut (by kernel_rfl) (of_decide_eq_true (by kernel_rfl)) h1 bel (fun x hx => hltp x (by simp [hx]))) (trodAll_cons_mk (Below.trod laidOut (by kernel_rfl) (of_decide_eq_true (by kernel_rfl)) h2 bel (fun x hx => hltp x (by simp [hx]))) trodAll_mk0))), rfl, bel.frame _, fun h => by cases h⟩
theorem over : Rows.fnExactKeepRow.holds Tryd.pinned (OpenSpec.ofChange Rows.fnExactKeepSpec) :=
  OpenClaim.holds_of_wide 8 Tryd.f8 rfl rfl rfl rfl rfl rfl rfl ⟨rfl, rfl, rfl, rfl, rfl⟩ rfl rfl rfl rfl rfl (by kernel_rfl) Tryd.func8 (by kernel_rfl)
    (of_decide_eq_true (by kernel_rfl)) (by unfold Func.isWrapper; first | (rw [if_pos (by decide +kernel)]; kernel_rfl) | (rw [if_neg (by decide +kernel)]; exact ⟨rfl, rfl⟩))
    (fun os started H enc _ => lifted os started H enc)
theorem card : Rows.FnExactKeepCardSaid :=
  Claim7.holds_tied_plain_at .later [] [.data, .pinned] true (true, "52ac7b560b88569ec3b5f15806baf43117219bf8ca080aae744325b803715c33") false over (fun _ h => by cases h) (by kernel_rfl) (fun _ h => by cases h) fnExactKeep_row_tie rfl ⟨rfl, rfl⟩ (by kernel_rfl) rfl
    (fun f fn hf hfn => by
      obtain rfl : f = 8 := Option.some.inj ((show Tryd.prog.funcNamed "loop.example/g00497/laws.FnExactKeep" = some 8 by kernel_rfl).symm.trans hf) |>.symm
      obtain rfl : fn = Tryd.f8 := (Option.some.inj (Tryd.func8.symm.trans hfn)).symm
      exact ⟨by kernel_rfl, fun j t ht => by
        rw [Tryd.params8] at ht
        have hm : t ∈ [38, 3, 26] := by simpa using Array.mem_of_getElem? ht
        have hall : ([38, 3, 26].all fun u => !Tryd.prog.wantsStandIn u) = true := by kernel_rfl
        exact (show Tryd.prog.wantsStandIn t = false by simpa using List.all_eq_true.1 hall t hm)⟩)
    (by kernel_rfl)
end Go.Proofs.YtcdpmfnjajjlkaaDoor.fnExactKeep
namespace Go.Proofs.YtcdpmfnjajjlkaaDoor
/-- The card, under a short name, for the claim. -/
theorem fnExactKeep_holds : Rows.FnExactKeepCardSaid := fnExactKeep.card
end Go.Proofs.YtcdpmfnjajjlkaaDoor
