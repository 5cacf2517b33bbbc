/- Walks of the functions that the law of GetQuest reaches: what each of them computes, where its pure function does not fail. -/
import Derived.Test.YtainnoaellcpdaaDoorWalkGetQuest0
set_option linter.unusedSimpArgs false
set_option linter.unusedVariables false
namespace Go.Abs.M
open Go Go.Abs Go.Proofs
theorem cl19 : callable Tryd.prog 19 = true := by kernel_rfl
theorem cl20 : callable Tryd.prog 20 = true := by kernel_rfl
theorem cl21 : callable Tryd.prog 21 = true := by kernel_rfl
theorem cl33 : callable Tryd.prog 33 = true := by kernel_rfl
theorem cl35 : callable Tryd.prog 35 = true := by kernel_rfl
theorem cl5 : callable Tryd.prog 5 = true := by kernel_rfl
theorem cl50 : callable Tryd.prog 50 = true := by kernel_rfl
theorem cl6 : callable Tryd.prog 6 = true := by kernel_rfl
theorem cl7 : callable Tryd.prog 7 = true := by kernel_rfl
theorem cl8 : callable Tryd.prog 8 = true := by kernel_rfl
theorem cl9 : callable Tryd.prog 9 = true := by kernel_rfl
/- impl.getBytes -/
def inv_i_getBytes_2 (p0 : List Int) (p1 : Int) (p2 : Int) (p3 : Int) (v2_0 : Int) (v2_1 : Nat) : St := mkT 44 [(3, .sc (.int .i64 p3)), (10, .sc (.int .i64 v2_0)), (28, .lst 1 (List.map byteV ((p0.drop p1.toNat).take ((p1 + p2).toNat - p1.toNat)))), (29, .sc (.int .i64 (((p0.drop p1.toNat).take ((p1 + p2).toNat - p1.toNat)).length : Int))), (30, .sc (.int .i64 (v2_1 : Int)))] []
def inv_i_getBytes_1 (p3 : Int) (j1_0 : Int) : St := mkT 44 [(3, .sc (.int .i64 p3)), (10, .sc (.int .i64 j1_0))] []
def inv_i_getBytes_0 (p0 : List Int) (p1 : Int) (p2 : Int) (p3 : Int) (j0_0 : Bool) : St := mkT 44 [(0, .lst 1 (List.map byteV p0)), (1, .sc (.int .i64 p1)), (2, .sc (.int .i64 p2)), (3, .sc (.int .i64 p3)), (22, .sc (.bool j0_0))] []
set_option maxRecDepth 4000 in
set_option maxHeartbeats 800000 in
theorem wi_getBytes (p0 : List Int) (p1 : Int) (p2 : Int) (p3 : Int) (r0 : Int) (r1 : Bool) (h : i_getBytes p0 p1 p2 p3 = some (r0, r1)) : Runs Tryd.prog 33 [.lst 1 (List.map byteV p0), .sc (.int .i64 p1), .sc (.int .i64 p2), .sc (.int .i64 p3)] [] (.tup [.sc (.int .i64 r0), .sc (.bool r1)]) [] := by
  unfold i_getBytes at h
  refine runsR [.tmp 8, .tmp 9] Tryd.func33 rfl rfl rfl rfl ?_
  rw [Tryd.ntmps33]
  refine tri_seq ?_
  refine tri_region ?_
  refine s_mv (.inr rfl) (v := .sc (.int .i64 0)) rfl rfl rfl rfl ?_
  refine s_mv (.inr rfl) (v := .sc (.bool false)) rfl rfl rfl rfl ?_
  refine rt_nil ?_
  refine tri_seq ?_
  refine tri_cutI (ι := { p : Bool // i_getBytes_j0 p0 p1 p2 p3 p = some (r0, r1) }) (fun p => inv_i_getBytes_0 p0 p1 p2 p3 p.1) ?_ ?_
  · skip
    refine tri_region ?_
    refine s_mv (.inl rfl) (by conv => lhs; whnf) rfl rfl rfl ?_
    refine s_of (st_lss rfl rfl rfl) rfl rfl rfl rfl ?_
    refine s_mv (.inl rfl) (by conv => lhs; whnf) rfl rfl rfl ?_
    refine s_split (t := 15) rfl (fun b1 => ?_) (fun b1 => ?_)
    · replace h := cond_t h b1
      refine s_skip rfl rfl rfl ?_
      refine s_skip rfl rfl rfl ?_
      refine s_skip rfl rfl rfl ?_
      refine s_skip rfl rfl rfl ?_
      refine s_skip rfl rfl rfl ?_
      refine s_skip rfl rfl rfl ?_
      refine s_pickT rfl rfl (v := .sc (.bool true)) rfl rfl rfl rfl ?_
      refine rt_nil ?_
      refine Exists.intro ⟨true, h⟩ ?_
      refine entX [] [] trivial trivial rfl rfl ?_
      exact ⟨(.free rfl), (.free rfl), (.free rfl), (.free rfl), (.free rfl), trivial⟩
    · replace h := cond_f h b1
      refine s_mv (.inl rfl) (by conv => lhs; whnf) rfl rfl rfl ?_
      refine s_mv (.inl rfl) (by conv => lhs; whnf) rfl rfl rfl ?_
      refine s_lenL rfl sl22 rfl rfl rfl rfl ?_
      refine s_mv (.inl rfl) (by conv => lhs; whnf) rfl rfl rfl ?_
      refine grd_elim h fun g2 h => ?_
      refine s_subI rfl rfl rfl rfl g2 rfl rfl rfl ?_
      refine s_of (st_gtr rfl rfl rfl) rfl rfl rfl rfl ?_
      refine s_pickF rfl rfl (by conv => lhs; whnf) rfl rfl rfl ?_
      refine rt_nil ?_
      refine Exists.intro ⟨decide ((p0.length : Int) - p2 < p1), h⟩ ?_
      refine entX [] [] trivial trivial rfl rfl ?_
      exact ⟨(.free rfl), (.free rfl), (.free rfl), (.free rfl), (.free rfl), trivial⟩
  · rintro ⟨j0_0, h⟩
    replace h : i_getBytes_j0 p0 p1 p2 p3 j0_0 = some (r0, r1) := h
    unfold i_getBytes_j0 at h
    show Tri _ _ _ (inv_i_getBytes_0 p0 p1 p2 p3 j0_0)
    refine tri_cond rfl (fun c1 => ?_) (fun c1 => ?_)
    · replace h := cond_t h c1
      refine tri_seq ?_
      refine tri_region ?_
      refine s_mv (.inr rfl) (v := .sc (.int .i64 0)) rfl rfl rfl rfl ?_
      refine s_mv (.inr rfl) (v := .sc (.bool false)) rfl rfl rfl rfl ?_
      refine rt_nil ?_
      refine tri_ret ?_
      have e0 := (some2 h).1; have e1 := (some2 h).2; subst e0; subst e1
      exact endY [] [] (rvC (resTmp rfl) (rvC (resTmp rfl) rvN)) trivial trivial rfl rfl rfl rfl (CvL.tup (.cons (.free rfl) (.cons (.free rfl) .nil)))
    · replace h := cond_f h c1
      refine tri_skip ?_
      refine tri_seq ?_
      refine tri_region ?_
      refine s_mv (.inr rfl) (v := .sc (.int .i64 0)) rfl rfl rfl rfl ?_
      refine rt_nil ?_
      refine tri_cutI (ι := { p : Int // i_getBytes_j1 p3 p = some (r0, r1) }) (fun p => inv_i_getBytes_1 p3 p.1) ?_ ?_
      · skip
        refine tri_seq ?_
        refine tri_region ?_
        refine s_mv (.inl rfl) (by conv => lhs; whnf) rfl rfl rfl ?_
        refine s_mv (.inl rfl) (by conv => lhs; whnf) rfl rfl rfl ?_
        refine s_mv (.inl rfl) (by conv => lhs; whnf) rfl rfl rfl ?_
        refine s_mv (.inl rfl) (by conv => lhs; whnf) rfl rfl rfl ?_
        refine grd_elim h fun g2 h => ?_
        refine s_addI rfl rfl rfl rfl g2 rfl rfl rfl ?_
        refine grd_elim h fun g3 h => ?_
        refine s_sliceFZ (a := p1) (b := p1 + p2) rfl rfl sl22 ⟨_, rfl⟩ ⟨_, rfl⟩ g3 rfl rfl rfl ?_
        refine s_lenL rfl sl22 rfl rfl rfl rfl ?_
        refine s_mv (.inl rfl) (v := .sc (.int .i64 0)) rfl rfl rfl rfl ?_
        refine rt_nil ?_
        refine tri_block ?_
        refine tri_lstM 28 rfl (fun hl2 => ?_)
        refine tri_loop (ι := { p : (List Int) × Int × Nat // ((p0.drop p1.toNat).take ((p1 + p2).toNat - p1.toNat)).drop p.2.2 = p.1 ∧ i_getBytes_l2 p3 p.1 p.2.1 p.2.2 = some (r0, r1) }) (fun p => inv_i_getBytes_2 p0 p1 p2 p3 p.1.2.1 p.1.2.2) (fun p => p.1.1.length) ⟨(((p0.drop p1.toNat).take ((p1 + p2).toNat - p1.toNat)), 0, 0), rfl, h⟩ ?_ ?_
        · skip
          refine entX [] [] trivial trivial rfl rfl ?_
          exact ⟨(.free rfl), (.free rfl), (.free rfl), (.free rfl), (.free rfl), trivial⟩
        · rintro ⟨⟨lrs2, v2_0, v2_1⟩, hd2, h⟩
          replace hd2 : ((p0.drop p1.toNat).take ((p1 + p2).toNat - p1.toNat)).drop v2_1 = lrs2 := hd2
          replace h : i_getBytes_l2 p3 lrs2 v2_0 v2_1 = some (r0, r1) := h
          show Tri _ _ _ (inv_i_getBytes_2 p0 p1 p2 p3 v2_0 v2_1)
          refine tri_seq ?_
          refine tri_region ?_
          refine s_of (st_lss rfl rfl rfl) rfl rfl rfl rfl ?_
          refine rt_nil ?_
          refine tri_seq ?_
          refine tri_cond rfl (fun c4 => ?_) (fun c4 => ?_)
          · refine drop_elim hd2 c4 fun e2 rs2 he hx2 hn2 => ?_
            subst he
            rw [i_getBytes_l2] at h
            refine tri_skip ?_
            refine tri_seq ?_
            refine tri_block ?_
            refine tri_seq ?_
            refine tri_region ?_
            refine s_indexF (i := v2_1) rfl rfl rfl sl22 (get_ltM hx2) rfl rfl rfl ?_
            refine s_loadF rfl rfl (rowG hx2) ty5 rfl (.inr rfl) (by conv => lhs; whnf) rfl rfl rfl ?_
            refine s_mv (.inr rfl) (by conv => lhs; whnf) rfl rfl rfl ?_
            refine rt_nil ?_
            refine tri_region ?_
            refine s_mv (.inl rfl) (by conv => lhs; whnf) rfl rfl rfl ?_
            refine grd_elim h fun g5 h => ?_
            refine s_mulI rfl rfl rfl rfl g5 rfl rfl rfl ?_
            refine s_mv (.inl rfl) (by conv => lhs; whnf) rfl rfl rfl ?_
            refine s_of (st_conv ik5 ik3 rfl rfl) rfl rfl rfl rfl ?_
            refine grd_elim h fun g6 h => ?_
            refine s_addI rfl rfl rfl rfl g6 rfl rfl rfl ?_
            refine s_mv (.inr rfl) (by conv => lhs; whnf) rfl rfl rfl ?_
            refine rt_nil ?_
            refine tri_region ?_
            refine s_inc (a := v2_1) (b := 1) rfl rfl rfl rfl (by have := get_lt hx2; have := hl2; omega) rfl rfl rfl ?_
            refine s_mv (.inl rfl) (by conv => lhs; whnf) rfl rfl rfl ?_
            refine rt_nil ?_
            refine Exists.intro ⟨(rs2, (256 * v2_0) + (IntKind.i64.wrap e2), (v2_1 + 1)), hn2, h⟩ (And.intro (Nat.lt_succ_self _) ?_)
            refine entX [] [] trivial trivial rfl rfl ?_
            exact ⟨(.free rfl), (.free rfl), (.free rfl), (.free rfl), (.free rfl), trivial⟩
          · have he := drop_f hd2 c4; subst he
            rw [i_getBytes_l2] at h
            refine tri_exit ?_
            refine Exists.intro ⟨v2_0, h⟩ ?_
            refine entX [] [] trivial trivial rfl rfl ?_
            exact ⟨(.free rfl), (.free rfl), trivial⟩
      · rintro ⟨j1_0, h⟩
        replace h : i_getBytes_j1 p3 j1_0 = some (r0, r1) := h
        unfold i_getBytes_j1 at h
        show Tri _ _ _ (inv_i_getBytes_1 p3 j1_0)
        refine tri_seq ?_
        refine tri_seq ?_
        refine tri_region ?_
        refine s_mv (.inl rfl) (by conv => lhs; whnf) rfl rfl rfl ?_
        refine s_mv (.inl rfl) (by conv => lhs; whnf) rfl rfl rfl ?_
        refine s_of (st_gtr rfl rfl rfl) rfl rfl rfl rfl ?_
        refine rt_nil ?_
        refine tri_cond rfl (fun c2 => ?_) (fun c2 => ?_)
        · replace h := cond_t h c2
          refine tri_seq ?_
          refine tri_region ?_
          refine s_mv (.inr rfl) (v := .sc (.int .i64 0)) rfl rfl rfl rfl ?_
          refine s_mv (.inr rfl) (v := .sc (.bool false)) rfl rfl rfl rfl ?_
          refine rt_nil ?_
          refine tri_ret ?_
          have e0 := (some2 h).1; have e1 := (some2 h).2; subst e0; subst e1
          exact endY [] [] (rvC (resTmp rfl) (rvC (resTmp rfl) rvN)) trivial trivial rfl rfl rfl rfl (CvL.tup (.cons (.free rfl) (.cons (.free rfl) .nil)))
        · replace h := cond_f h c2
          refine tri_skip ?_
          refine tri_seq ?_
          refine tri_region ?_
          refine s_mv (.inl rfl) (by conv => lhs; whnf) rfl rfl rfl ?_
          refine s_mv (.inr rfl) (by conv => lhs; whnf) rfl rfl rfl ?_
          refine s_mv (.inr rfl) (v := .sc (.bool true)) rfl rfl rfl rfl ?_
          refine rt_nil ?_
          refine tri_ret ?_
          have e0 := (some2 h).1; have e1 := (some2 h).2; subst e0; subst e1
          exact endY [] [] (rvC (resTmp rfl) (rvC (resTmp rfl) rvN)) trivial trivial rfl rfl rfl rfl (CvL.tup (.cons (.free rfl) (.cons (.free rfl) .nil)))

/- impl.Get2 -/

set_option maxRecDepth 4000 in
set_option maxHeartbeats 800000 in
theorem wi_Get2 (p0 : List Int) (p1 : Int) (r0 : Int) (r1 : Bool) (h : i_Get2 p0 p1 = some (r0, r1)) : Runs Tryd.prog 20 [.lst 1 (List.map byteV p0), .sc (.int .i64 p1)] [] (.tup [.sc (.int .i64 r0), .sc (.bool r1)]) [] := by
  unfold i_Get2 at h
  refine runsR [.tmp 4, .tmp 5] Tryd.func20 rfl rfl rfl rfl ?_
  rw [Tryd.ntmps20]
  refine tri_seq ?_
  refine tri_region ?_
  refine s_mv (.inr rfl) (v := .sc (.int .i64 0)) rfl rfl rfl rfl ?_
  refine s_mv (.inr rfl) (v := .sc (.bool false)) rfl rfl rfl rfl ?_
  refine rt_nil ?_
  refine tri_seq ?_
  refine tri_region ?_
  refine s_mv (.inl rfl) (by conv => lhs; whnf) rfl rfl rfl ?_
  refine s_mv (.inl rfl) (by conv => lhs; whnf) rfl rfl rfl ?_
  refine bnd2_elim h fun x1 x2 q3 h => ?_
  refine s_callN (kb := []) (ns := []) (v := .tup [.sc (.int .i64 x1), .sc (.bool x2)]) rfl rfl cl33 (wi_getBytes p0 p1 2 65535 x1 x2 q3) rfl (.cons (.free rfl) (.cons (.free rfl) (.cons (.free rfl) (.cons (.free rfl) .nil)))) trivial memNil .nil memNil rfl trivial memNil rfl rfl rfl rfl rfl rfl ?_
  refine s_extract rfl rfl rfl rfl rfl rfl ?_
  refine s_extract rfl rfl rfl rfl rfl rfl ?_
  refine s_mv (.inr rfl) (by conv => lhs; whnf) rfl rfl rfl ?_
  refine s_mv (.inr rfl) (by conv => lhs; whnf) rfl rfl rfl ?_
  refine rt_nil ?_
  refine tri_ret ?_
  have e0 := (some2 h).1; have e1 := (some2 h).2; subst e0; subst e1
  exact endY [] [] (rvC (resTmp rfl) (rvC (resTmp rfl) rvN)) trivial trivial rfl rfl rfl rfl (CvL.tup (.cons (.free rfl) (.cons (.free rfl) .nil)))

/- impl.TypeText -/

set_option maxRecDepth 4000 in
set_option maxHeartbeats 800000 in
theorem wi_TypeText (p0 : Int) (r0 : ByteArray) (h : i_TypeText p0 = some r0) : Runs Tryd.prog 50 [.sc (.int .i64 p0)] [] (.sc (.string r0)) [] := by
  unfold i_TypeText at h
  refine runsR [.tmp 2] Tryd.func50 rfl rfl rfl rfl ?_
  rw [Tryd.ntmps50]
  refine tri_seq ?_
  refine tri_region ?_
  refine s_mv (.inr rfl) (v := .sc (.string (⟨#[]⟩ : ByteArray))) rfl rfl rfl rfl ?_
  refine rt_nil ?_
  refine tri_seq ?_
  refine tri_seq ?_
  refine tri_region ?_
  refine s_mv (.inl rfl) (by conv => lhs; whnf) rfl rfl rfl ?_
  refine rt_nil ?_
  refine tri_block ?_
  refine tri_seq ?_
  refine tri_region ?_
  refine s_of (st_eqI rfl rfl rfl) rfl rfl rfl rfl ?_
  refine s_mv (.inr rfl) (by conv => lhs; whnf) rfl rfl rfl ?_
  refine rt_nil ?_
  refine tri_cond rfl (fun c1 => ?_) (fun c1 => ?_)
  · replace h := cond_t h c1
    refine tri_seq ?_
    refine tri_region ?_
    refine s_mv (.inr rfl) (v := .sc (.string (⟨#[97, 100, 100, 114]⟩ : ByteArray))) rfl rfl rfl rfl ?_
    refine rt_nil ?_
    refine tri_ret ?_
    have e0 := (some1 h); subst e0
    exact endY [] [] (rvC (resTmp rfl) rvN) trivial trivial rfl rfl rfl rfl (.free rfl)
  · replace h := cond_f h c1
    refine tri_seq ?_
    refine tri_region ?_
    refine s_of (st_eqI rfl rfl rfl) rfl rfl rfl rfl ?_
    refine s_mv (.inr rfl) (by conv => lhs; whnf) rfl rfl rfl ?_
    refine rt_nil ?_
    refine tri_cond rfl (fun c2 => ?_) (fun c2 => ?_)
    · replace h := cond_t h c2
      refine tri_seq ?_
      refine tri_region ?_
      refine s_mv (.inr rfl) (v := .sc (.string (⟨#[115, 101, 114, 118, 101, 114]⟩ : ByteArray))) rfl rfl rfl rfl ?_
      refine rt_nil ?_
      refine tri_ret ?_
      have e0 := (some1 h); subst e0
      exact endY [] [] (rvC (resTmp rfl) rvN) trivial trivial rfl rfl rfl rfl (.free rfl)
    · replace h := cond_f h c2
      refine tri_seq ?_
      refine tri_region ?_
      refine s_of (st_eqI rfl rfl rfl) rfl rfl rfl rfl ?_
      refine s_mv (.inr rfl) (by conv => lhs; whnf) rfl rfl rfl ?_
      refine rt_nil ?_
      refine tri_cond rfl (fun c3 => ?_) (fun c3 => ?_)
      · replace h := cond_t h c3
        refine tri_seq ?_
        refine tri_region ?_
        refine s_mv (.inr rfl) (v := .sc (.string (⟨#[97, 108, 105, 97, 115]⟩ : ByteArray))) rfl rfl rfl rfl ?_
        refine rt_nil ?_
        refine tri_ret ?_
        have e0 := (some1 h); subst e0
        exact endY [] [] (rvC (resTmp rfl) rvN) trivial trivial rfl rfl rfl rfl (.free rfl)
      · replace h := cond_f h c3
        refine tri_seq ?_
        refine tri_region ?_
        refine s_of (st_eqI rfl rfl rfl) rfl rfl rfl rfl ?_
        refine s_mv (.inr rfl) (by conv => lhs; whnf) rfl rfl rfl ?_
        refine rt_nil ?_
        refine tri_cond rfl (fun c4 => ?_) (fun c4 => ?_)
        · replace h := cond_t h c4
          refine tri_seq ?_
          refine tri_region ?_
          refine s_mv (.inr rfl) (v := .sc (.string (⟨#[115, 116, 97, 114, 116]⟩ : ByteArray))) rfl rfl rfl rfl ?_
          refine rt_nil ?_
          refine tri_ret ?_
          have e0 := (some1 h); subst e0
          exact endY [] [] (rvC (resTmp rfl) rvN) trivial trivial rfl rfl rfl rfl (.free rfl)
        · replace h := cond_f h c4
          refine tri_seq ?_
          refine tri_region ?_
          refine s_of (st_eqI rfl rfl rfl) rfl rfl rfl rfl ?_
          refine s_mv (.inr rfl) (by conv => lhs; whnf) rfl rfl rfl ?_
          refine rt_nil ?_
          refine tri_cond rfl (fun c5 => ?_) (fun c5 => ?_)
          · replace h := cond_t h c5
            refine tri_seq ?_
            refine tri_region ?_
            refine s_mv (.inr rfl) (v := .sc (.string (⟨#[116, 101, 120, 116]⟩ : ByteArray))) rfl rfl rfl rfl ?_
            refine rt_nil ?_
            refine tri_ret ?_
            have e0 := (some1 h); subst e0
            exact endY [] [] (rvC (resTmp rfl) rvN) trivial trivial rfl rfl rfl rfl (.free rfl)
          · replace h := cond_f h c5
            refine tri_skip ?_
            refine tri_seq ?_
            refine tri_region ?_
            refine s_mv (.inr rfl) (v := .sc (.string (⟨#[]⟩ : ByteArray))) rfl rfl rfl rfl ?_
            refine rt_nil ?_
            refine tri_ret ?_
            have e0 := (some1 h); subst e0
            exact endY [] [] (rvC (resTmp rfl) rvN) trivial trivial rfl rfl rfl rfl (.free rfl)

/- impl.TypeOk -/

set_option maxRecDepth 4000 in
set_option maxHeartbeats 800000 in
theorem wi_TypeOk (p0 : Int) (r0 : Bool) (h : i_TypeOk p0 = some r0) : Runs Tryd.prog 35 [.sc (.int .i64 p0)] [] (.sc (.bool r0)) [] := by
  unfold i_TypeOk at h
  refine runsR [.tmp 2] Tryd.func35 rfl rfl rfl rfl ?_
  rw [Tryd.ntmps35]
  refine tri_seq ?_
  refine tri_region ?_
  refine s_mv (.inr rfl) (v := .sc (.bool false)) rfl rfl rfl rfl ?_
  refine rt_nil ?_
  refine tri_seq ?_
  refine tri_region ?_
  refine s_mv (.inl rfl) (by conv => lhs; whnf) rfl rfl rfl ?_
  refine bnd1_elim h fun x1 q2 h => ?_
  refine s_callN (kb := []) (ns := []) (v := .sc (.string x1)) rfl rfl cl50 (wi_TypeText p0 x1 q2) rfl (.cons (.free rfl) .nil) trivial memNil .nil memNil rfl trivial memNil rfl rfl rfl rfl rfl rfl ?_
  refine s_of (st_neS rfl rfl rfl) rfl rfl rfl rfl ?_
  refine s_mv (.inr rfl) (by conv => lhs; whnf) rfl rfl rfl ?_
  refine rt_nil ?_
  refine tri_ret ?_
  have e0 := (some1 h); subst e0
  exact endY [] [] (rvC (resTmp rfl) rvN) trivial trivial rfl rfl rfl rfl (.free rfl)

/- impl.QuestOk -/

set_option maxRecDepth 4000 in
set_option maxHeartbeats 800000 in
theorem wi_QuestOk (p0 : Quest) (r0 : Bool) (h : i_QuestOk p0 = some r0) : Runs Tryd.prog 21 [.agg (questV p0)] [] (.sc (.bool r0)) [] := by
  unfold i_QuestOk at h
  refine runsR [.tmp 2] Tryd.func21 rfl rfl rfl rfl ?_
  rw [Tryd.ntmps21]
  refine tri_seq ?_
  refine tri_region ?_
  refine s_box rfl rfl rfl rfl rfl rfl rfl ?_
  refine s_mv (.inr rfl) (v := .sc (.bool false)) rfl rfl rfl rfl ?_
  refine rt_nil ?_
  refine tri_seq ?_
  refine tri_region ?_
  refine s_fieldAddr rfl rfl fd24_0 rfl rfl rfl rfl ?_
  refine s_load rfl rfl rfl rfl ty9 rfl (.inr rfl) (by conv => lhs; whnf) rfl rfl rfl ?_
  refine bnd1_elim h fun x1 q2 h => ?_
  refine s_callN (kb := []) (ns := []) (v := .sc (.bool x1)) rfl rfl cl34 (wi_NameOk p0.name x1 q2) rfl (.cons (.free rfl) .nil) trivial memNil .nil memNil rfl trivial memNil rfl rfl rfl rfl rfl rfl ?_
  refine s_mv (.inl rfl) (by conv => lhs; whnf) rfl rfl rfl ?_
  refine s_split (t := 6) rfl (fun b3 => ?_) (fun b3 => ?_)
  · replace h := cond_t h b3
    refine s_fieldAddr rfl rfl fd24_1 rfl rfl rfl rfl ?_
    refine s_load rfl rfl rfl rfl ty3 rfl (.inr rfl) (by conv => lhs; whnf) rfl rfl rfl ?_
    refine bnd1_elim h fun x4 q5 h => ?_
    refine s_callN (kb := []) (ns := []) (v := .sc (.bool x4)) rfl rfl cl35 (wi_TypeOk p0.ty x4 q5) rfl (.cons (.free rfl) .nil) trivial memNil .nil memNil rfl trivial memNil rfl rfl rfl rfl rfl rfl ?_
    refine s_pickT rfl rfl (by conv => lhs; whnf) rfl rfl rfl ?_
    refine s_mv (.inr rfl) (by conv => lhs; whnf) rfl rfl rfl ?_
    refine rt_nil ?_
    refine tri_ret ?_
    have e0 := (some1 h); subst e0
    exact endY [] [] (rvC (resTmp rfl) rvN) trivial trivial rfl rfl rfl rfl (.free rfl)
  · replace h := cond_f h b3
    refine s_skip rfl rfl rfl ?_
    refine s_skip rfl rfl rfl ?_
    refine s_skip rfl rfl rfl ?_
    refine s_pickF rfl rfl (v := .sc (.bool false)) rfl rfl rfl rfl ?_
    refine s_mv (.inr rfl) (by conv => lhs; whnf) rfl rfl rfl ?_
    refine rt_nil ?_
    refine tri_ret ?_
    have e0 := (some1 h); subst e0
    exact endY [] [] (rvC (resTmp rfl) rvN) trivial trivial rfl rfl rfl rfl (.free rfl)

/- impl.GetQuest -/
def inv_i_GetQuest_0 (x1 : ByteArray) (x2 : Int) (x8 : Int) (j0_0 : Bool) : St := mkT 59 [(4, .ptr (4, 0) 0 0), (8, .sc (.int .i64 x2)), (14, .ptr (14, 0) 0 0), (54, .sc (.bool j0_0))] [((4, 0), some ⟨24, 2, [[.sc (.string (⟨#[]⟩ : ByteArray)), .sc (.int .i64 0)]], false, true⟩), ((14, 0), some ⟨24, 2, [[.sc (.string x1), .sc (.int .i64 x8)]], false, true⟩)]
set_option maxRecDepth 4000 in
set_option maxHeartbeats 800000 in
theorem wi_GetQuest (p0 : List Int) (p1 : Int) (r0 : Quest) (r1 : Int) (r2 : Int) (h : i_GetQuest p0 p1 = some (r0, r1, r2)) : Runs Tryd.prog 7 [.lst 1 (List.map byteV p0), .sc (.int .i64 p1)] [] (.tup [.agg (questV r0), .sc (.int .i64 r1), .sc (.int .i64 r2)]) [] := by
  unfold i_GetQuest at h
  refine runsR [.cell 4 24, .tmp 5, .tmp 6] Tryd.func7 rfl rfl rfl rfl ?_
  rw [Tryd.ntmps7]
  refine tri_seq ?_
  refine tri_region ?_
  refine s_alloc rfl rfl rfl zc24 rfl rfl rfl rfl rfl ?_
  refine s_mv (.inr rfl) (v := .sc (.int .i64 0)) rfl rfl rfl rfl ?_
  refine s_mv (.inr rfl) (v := .sc (.int .i64 0)) rfl rfl rfl rfl ?_
  refine rt_nil ?_
  refine tri_seq ?_
  refine tri_region ?_
  refine s_mv (.inl rfl) (by conv => lhs; whnf) rfl rfl rfl ?_
  refine s_mv (.inl rfl) (by conv => lhs; whnf) rfl rfl rfl ?_
  refine bnd3_elim h fun x1 x2 x3 q4 h => ?_
  refine s_callN (kb := []) (ns := []) (v := .tup [.sc (.string x1), .sc (.int .i64 x2), .sc (.int .i64 x3)]) rfl rfl cl19 (wi_GetName p0 p1 x1 x2 x3 q4) rfl (.cons (.free rfl) (.cons (.free rfl) .nil)) trivial memNil .nil memNil rfl trivial memNil rfl rfl rfl rfl rfl rfl ?_
  refine s_mv (.inl rfl) (by conv => lhs; whnf) rfl rfl rfl ?_
  refine s_extract rfl rfl rfl rfl rfl rfl ?_
  refine s_extract rfl rfl rfl rfl rfl rfl ?_
  refine s_extract rfl rfl rfl rfl rfl rfl ?_
  refine s_mv (.inr rfl) (by conv => lhs; whnf) rfl rfl rfl ?_
  refine s_mv (.inr rfl) (by conv => lhs; whnf) rfl rfl rfl ?_
  refine s_mv (.inr rfl) (by conv => lhs; whnf) rfl rfl rfl ?_
  refine rt_nil ?_
  refine tri_seq ?_
  refine tri_seq ?_
  refine tri_region ?_
  refine s_mv (.inl rfl) (by conv => lhs; whnf) rfl rfl rfl ?_
  refine s_of (st_neI rfl rfl rfl) rfl rfl rfl rfl ?_
  refine rt_nil ?_
  refine tri_cond rfl (fun c5 => ?_) (fun c5 => ?_)
  · replace h := cond_t h c5
    refine tri_seq ?_
    refine tri_region ?_
    refine s_build (cells' := [.sc (.string (⟨#[]⟩ : ByteArray)), .sc (.int .i64 0)]) rfl stc24 rfl rfl rfl rfl rfl rfl rfl ?_
    refine s_mv (.inl rfl) (by conv => lhs; whnf) rfl rfl rfl ?_
    refine s_storeB rfl rfl rfl ty24 rfl rfl rfl rfl rfl ?_
    refine s_mv (.inr rfl) (v := .sc (.int .i64 0)) rfl rfl rfl rfl ?_
    refine s_mv (.inr rfl) (by conv => lhs; whnf) rfl rfl rfl ?_
    refine rt_nil ?_
    refine tri_ret ?_
    have e0 := (some3 h).1; have e1 := (some3 h).2.1; have e2 := (some3 h).2.2; subst e0; subst e1; subst e2
    exact endY [] [] (rvC (resCell rfl rfl ty24) (rvC (resTmp rfl) (rvC (resTmp rfl) rvN))) trivial trivial rfl rfl rfl rfl (CvL.tup (.cons (cvAgg rfl) (.cons (.free rfl) (.cons (.free rfl) .nil))))
  · replace h := cond_f h c5
    refine tri_skip ?_
    refine tri_seq ?_
    refine tri_seq ?_
    refine tri_region ?_
    refine s_mv (.inl rfl) (by conv => lhs; whnf) rfl rfl rfl ?_
    refine s_lenL rfl sl22 rfl rfl rfl rfl ?_
    refine s_mv (.inl rfl) (by conv => lhs; whnf) rfl rfl rfl ?_
    refine grd_elim h fun g6 h => ?_
    refine s_subI rfl rfl rfl rfl g6 rfl rfl rfl ?_
    refine s_of (st_lss rfl rfl rfl) rfl rfl rfl rfl ?_
    refine rt_nil ?_
    refine tri_cond rfl (fun c7 => ?_) (fun c7 => ?_)
    · replace h := cond_t h c7
      refine tri_seq ?_
      refine tri_region ?_
      refine s_build (cells' := [.sc (.string (⟨#[]⟩ : ByteArray)), .sc (.int .i64 0)]) rfl stc24 rfl rfl rfl rfl rfl rfl rfl ?_
      refine s_storeB rfl rfl rfl ty24 rfl rfl rfl rfl rfl ?_
      refine s_mv (.inr rfl) (v := .sc (.int .i64 0)) rfl rfl rfl rfl ?_
      refine s_mv (.inr rfl) (v := .sc (.int .i64 1)) rfl rfl rfl rfl ?_
      refine rt_nil ?_
      refine tri_ret ?_
      have e0 := (some3 h).1; have e1 := (some3 h).2.1; have e2 := (some3 h).2.2; subst e0; subst e1; subst e2
      exact endY [] [] (rvC (resCell rfl rfl ty24) (rvC (resTmp rfl) (rvC (resTmp rfl) rvN))) trivial trivial rfl rfl rfl rfl (CvL.tup (.cons (cvAgg rfl) (.cons (.free rfl) (.cons (.free rfl) .nil))))
    · replace h := cond_f h c7
      refine tri_skip ?_
      refine tri_seq ?_
      refine tri_region ?_
      refine s_mv (.inl rfl) (by conv => lhs; whnf) rfl rfl rfl ?_
      refine s_mv (.inl rfl) (by conv => lhs; whnf) rfl rfl rfl ?_
      refine bnd2_elim h fun x8 x9 q10 h => ?_
      refine s_callN (kb := []) (ns := []) (v := .tup [.sc (.int .i64 x8), .sc (.bool x9)]) rfl rfl cl20 (wi_Get2 p0 x2 x8 x9 q10) rfl (.cons (.free rfl) (.cons (.free rfl) .nil)) trivial memNil .nil memNil rfl trivial memNil rfl rfl rfl rfl rfl rfl ?_
      refine s_mv (.inl rfl) (by conv => lhs; whnf) rfl rfl rfl ?_
      refine s_extract rfl rfl rfl rfl rfl rfl ?_
      refine s_extract rfl rfl rfl rfl rfl rfl ?_
      refine s_mv (.inr rfl) (by conv => lhs; whnf) rfl rfl rfl ?_
      refine s_mv (.inr rfl) (by conv => lhs; whnf) rfl rfl rfl ?_
      refine rt_nil ?_
      refine tri_seq ?_
      refine tri_region ?_
      refine s_mv (.inl rfl) (by conv => lhs; whnf) rfl rfl rfl ?_
      refine s_mv (.inl rfl) (by conv => lhs; whnf) rfl rfl rfl ?_
      refine grd_elim h fun g11 h => ?_
      refine s_addI rfl rfl rfl rfl g11 rfl rfl rfl ?_
      refine bnd2_elim h fun x12 x13 q14 h => ?_
      refine s_callN (kb := []) (ns := []) (v := .tup [.sc (.int .i64 x12), .sc (.bool x13)]) rfl rfl cl20 (wi_Get2 p0 (x2 + 2) x12 x13 q14) rfl (.cons (.free rfl) (.cons (.free rfl) .nil)) trivial memNil .nil memNil rfl trivial memNil rfl rfl rfl rfl rfl rfl ?_
      refine s_mv (.inl rfl) (by conv => lhs; whnf) rfl rfl rfl ?_
      refine s_extract rfl rfl rfl rfl rfl rfl ?_
      refine s_extract rfl rfl rfl rfl rfl rfl ?_
      refine s_mv (.inr rfl) (by conv => lhs; whnf) rfl rfl rfl ?_
      refine s_mv (.inr rfl) (by conv => lhs; whnf) rfl rfl rfl ?_
      refine rt_nil ?_
      refine tri_seq ?_
      refine tri_region ?_
      refine s_mv (.inl rfl) (by conv => lhs; whnf) rfl rfl rfl ?_
      refine s_mv (.inl rfl) (by conv => lhs; whnf) rfl rfl rfl ?_
      refine s_build (cells' := [.sc (.string x1), .sc (.int .i64 x8)]) rfl stc24 rfl rfl rfl rfl rfl rfl rfl ?_
      refine s_alloc rfl rfl rfl zc24 rfl rfl rfl rfl rfl ?_
      refine s_storeB rfl rfl rfl ty24 rfl rfl rfl rfl rfl ?_
      refine rt_nil ?_
      refine tri_seq ?_
      refine tri_cutI (ι := { p : Bool // i_GetQuest_j0 x1 x2 x8 p = some (r0, r1, r2) }) (fun p => inv_i_GetQuest_0 x1 x2 x8 p.1) ?_ ?_
      · skip
        refine tri_region ?_
        refine s_loadR rfl rfl rfl rfl ty24 rfl rfl rfl ?_
        refine bnd1_elim h fun x15 q16 h => ?_
        refine s_callN (kb := []) (ns := []) (v := .sc (.bool x15)) rfl rfl cl21 (wi_QuestOk (Quest.mk x1 x8) x15 q16) rfl (.cons (relAgg rfl) .nil) trivial memNil .nil memNil rfl trivial memNil rfl rfl rfl rfl rfl rfl ?_
        refine s_of (st_not rfl rfl) rfl rfl rfl rfl ?_
        refine s_mv (.inl rfl) (by conv => lhs; whnf) rfl rfl rfl ?_
        refine s_split (t := 51) rfl (fun b17 => ?_) (fun b17 => ?_)
        · replace h := cond_t h b17
          refine s_skip rfl rfl rfl ?_
          refine s_skip rfl rfl rfl ?_
          refine s_pickT rfl rfl (v := .sc (.bool true)) rfl rfl rfl rfl ?_
          refine rt_nil ?_
          refine Exists.intro ⟨true, h⟩ ?_
          refine entX [((4, 0), ⟨24, 2, [[.sc (.string (⟨#[]⟩ : ByteArray)), .sc (.int .i64 0)]], false, true⟩, some (4, 0)), ((14, 0), ⟨24, 2, [[.sc (.string x1), .sc (.int .i64 x8)]], false, true⟩, some (14, 0))] [] ⟨⟨rfl, _, rfl, rfl, rfl, rfl, id, rowsCv_one (.cons (.free rfl) (.cons (.free rfl) .nil)), rowsZ_one rfl⟩, ⟨rfl, _, rfl, rfl, rfl, rfl, id, rowsCv_one (.cons (.free rfl) (.cons (.free rfl) .nil)), rowsZ_one rfl⟩, trivial⟩ trivial rfl rfl ?_
          exact ⟨(.ptr rfl), (.free rfl), (.ptr rfl), (.free rfl), trivial⟩
        · replace h := cond_f h b17
          refine s_mv (.inl rfl) (by conv => lhs; whnf) rfl rfl rfl ?_
          refine s_of (st_neI rfl rfl rfl) rfl rfl rfl rfl ?_
          refine s_pickF rfl rfl (by conv => lhs; whnf) rfl rfl rfl ?_
          refine rt_nil ?_
          refine Exists.intro ⟨!decide (x12 = 1), h⟩ ?_
          refine entX [((4, 0), ⟨24, 2, [[.sc (.string (⟨#[]⟩ : ByteArray)), .sc (.int .i64 0)]], false, true⟩, some (4, 0)), ((14, 0), ⟨24, 2, [[.sc (.string x1), .sc (.int .i64 x8)]], false, true⟩, some (14, 0))] [] ⟨⟨rfl, _, rfl, rfl, rfl, rfl, id, rowsCv_one (.cons (.free rfl) (.cons (.free rfl) .nil)), rowsZ_one rfl⟩, ⟨rfl, _, rfl, rfl, rfl, rfl, id, rowsCv_one (.cons (.free rfl) (.cons (.free rfl) .nil)), rowsZ_one rfl⟩, trivial⟩ trivial rfl rfl ?_
          exact ⟨(.ptr rfl), (.free rfl), (.ptr rfl), (.free rfl), trivial⟩
      · rintro ⟨j0_0, h⟩
        replace h : i_GetQuest_j0 x1 x2 x8 j0_0 = some (r0, r1, r2) := h
        unfold i_GetQuest_j0 at h
        show Tri _ _ _ (inv_i_GetQuest_0 x1 x2 x8 j0_0)
        refine tri_cond rfl (fun c15 => ?_) (fun c15 => ?_)
        · replace h := cond_t h c15
          refine tri_seq ?_
          refine tri_region ?_
          refine s_build (cells' := [.sc (.string (⟨#[]⟩ : ByteArray)), .sc (.int .i64 0)]) rfl stc24 rfl rfl rfl rfl rfl rfl rfl ?_
          refine s_storeB rfl rfl rfl ty24 rfl rfl rfl rfl rfl ?_
          refine s_mv (.inr rfl) (v := .sc (.int .i64 0)) rfl rfl rfl rfl ?_
          refine s_mv (.inr rfl) (v := .sc (.int .i64 2)) rfl rfl rfl rfl ?_
          refine rt_nil ?_
          refine tri_ret ?_
          have e0 := (some3 h).1; have e1 := (some3 h).2.1; have e2 := (some3 h).2.2; subst e0; subst e1; subst e2
          exact endY [] [] (rvC (resCell rfl rfl ty24) (rvC (resTmp rfl) (rvC (resTmp rfl) rvN))) trivial trivial rfl rfl rfl rfl (CvL.tup (.cons (cvAgg rfl) (.cons (.free rfl) (.cons (.free rfl) .nil))))
        · replace h := cond_f h c15
          refine tri_skip ?_
          refine tri_seq ?_
          refine tri_region ?_
          refine s_loadR rfl rfl rfl rfl ty24 rfl rfl rfl ?_
          refine s_mv (.inl rfl) (by conv => lhs; whnf) rfl rfl rfl ?_
          refine grd_elim h fun g16 h => ?_
          refine s_addI rfl rfl rfl rfl g16 rfl rfl rfl ?_
          refine s_storeB rfl rfl rfl ty24 rfl rfl rfl rfl rfl ?_
          refine s_mv (.inr rfl) (by conv => lhs; whnf) rfl rfl rfl ?_
          refine s_mv (.inr rfl) (v := .sc (.int .i64 0)) rfl rfl rfl rfl ?_
          refine rt_nil ?_
          refine tri_ret ?_
          have e0 := (some3 h).1; have e1 := (some3 h).2.1; have e2 := (some3 h).2.2; subst e0; subst e1; subst e2
          exact endY [] [] (rvC (resCell rfl rfl ty24) (rvC (resTmp rfl) (rvC (resTmp rfl) rvN))) trivial trivial rfl rfl rfl rfl (CvL.tup (.cons (cvAgg rfl) (.cons (.free rfl) (.cons (.free rfl) .nil))))

/- laws.eqQuest -/

set_option maxRecDepth 4000 in
set_option maxHeartbeats 800000 in
theorem ww_eqQuest (p0 : Quest) (p1 : Quest) (r0 : Bool) (h : w_eqQuest p0 p1 = some r0) : Runs Tryd.prog 8 [.agg (questV p0), .agg (questV p1)] [] (.sc (.bool r0)) [] := by
  unfold w_eqQuest at h
  refine runsR [.tmp 4] Tryd.func8 rfl rfl rfl rfl ?_
  rw [Tryd.ntmps8]
  refine tri_seq ?_
  refine tri_region ?_
  refine s_box rfl rfl rfl rfl rfl rfl rfl ?_
  refine s_box rfl rfl rfl rfl rfl rfl rfl ?_
  refine s_mv (.inr rfl) (v := .sc (.bool false)) rfl rfl rfl rfl ?_
  refine rt_nil ?_
  refine tri_seq ?_
  refine tri_seq ?_
  refine tri_region ?_
  refine s_fieldAddr rfl rfl fd24_0 rfl rfl rfl rfl ?_
  refine s_load rfl rfl rfl rfl ty9 rfl (.inr rfl) (by conv => lhs; whnf) rfl rfl rfl ?_
  refine s_fieldAddr rfl rfl fd24_0 rfl rfl rfl rfl ?_
  refine s_load rfl rfl rfl rfl ty9 rfl (.inr rfl) (by conv => lhs; whnf) rfl rfl rfl ?_
  refine s_of (st_neS rfl rfl rfl) rfl rfl rfl rfl ?_
  refine rt_nil ?_
  refine tri_cond rfl (fun c1 => ?_) (fun c1 => ?_)
  · replace h := cond_t h c1
    refine tri_seq ?_
    refine tri_region ?_
    refine s_mv (.inr rfl) (v := .sc (.bool false)) rfl rfl rfl rfl ?_
    refine rt_nil ?_
    refine tri_ret ?_
    have e0 := (some1 h); subst e0
    exact endY [] [] (rvC (resTmp rfl) rvN) trivial trivial rfl rfl rfl rfl (.free rfl)
  · replace h := cond_f h c1
    refine tri_skip ?_
    refine tri_seq ?_
    refine tri_seq ?_
    refine tri_region ?_
    refine s_fieldAddr rfl rfl fd24_1 rfl rfl rfl rfl ?_
    refine s_load rfl rfl rfl rfl ty3 rfl (.inr rfl) (by conv => lhs; whnf) rfl rfl rfl ?_
    refine s_fieldAddr rfl rfl fd24_1 rfl rfl rfl rfl ?_
    refine s_load rfl rfl rfl rfl ty3 rfl (.inr rfl) (by conv => lhs; whnf) rfl rfl rfl ?_
    refine s_of (st_neI rfl rfl rfl) rfl rfl rfl rfl ?_
    refine rt_nil ?_
    refine tri_cond rfl (fun c2 => ?_) (fun c2 => ?_)
    · replace h := cond_t h c2
      refine tri_seq ?_
      refine tri_region ?_
      refine s_mv (.inr rfl) (v := .sc (.bool false)) rfl rfl rfl rfl ?_
      refine rt_nil ?_
      refine tri_ret ?_
      have e0 := (some1 h); subst e0
      exact endY [] [] (rvC (resTmp rfl) rvN) trivial trivial rfl rfl rfl rfl (.free rfl)
    · replace h := cond_f h c2
      refine tri_skip ?_
      refine tri_seq ?_
      refine tri_region ?_
      refine s_mv (.inr rfl) (v := .sc (.bool true)) rfl rfl rfl rfl ?_
      refine rt_nil ?_
      refine tri_ret ?_
      have e0 := (some1 h); subst e0
      exact endY [] [] (rvC (resTmp rfl) rvN) trivial trivial rfl rfl rfl rfl (.free rfl)

/- laws.eqByteS -/
def inv_w_eqByteS_0 (p0 : List Int) (p1 : List Int) (v0_0 : Nat) : St := mkT 26 [(0, .lst 1 (List.map byteV p0)), (1, .lst 1 (List.map byteV p1)), (5, .sc (.int .i64 (v0_0 : Int)))] []
set_option maxRecDepth 4000 in
set_option maxHeartbeats 800000 in
theorem ww_eqByteS (p0 : List Int) (p1 : List Int) (r0 : Bool) (h : w_eqByteS p0 p1 = some r0) : Runs Tryd.prog 9 [.lst 1 (List.map byteV p0), .lst 1 (List.map byteV p1)] [] (.sc (.bool r0)) [] := by
  unfold w_eqByteS at h
  refine runsR [.tmp 4] Tryd.func9 rfl rfl rfl rfl ?_
  rw [Tryd.ntmps9]
  refine tri_seq ?_
  refine tri_region ?_
  refine s_mv (.inr rfl) (v := .sc (.bool false)) rfl rfl rfl rfl ?_
  refine rt_nil ?_
  refine tri_seq ?_
  refine tri_seq ?_
  refine tri_region ?_
  refine s_mv (.inl rfl) (by conv => lhs; whnf) rfl rfl rfl ?_
  refine s_lenL rfl sl22 rfl rfl rfl rfl ?_
  refine s_mv (.inl rfl) (by conv => lhs; whnf) rfl rfl rfl ?_
  refine s_lenL rfl sl22 rfl rfl rfl rfl ?_
  refine s_of (st_neI rfl rfl rfl) rfl rfl rfl rfl ?_
  refine rt_nil ?_
  refine tri_cond rfl (fun c1 => ?_) (fun c1 => ?_)
  · replace h := cond_t h c1
    refine tri_seq ?_
    refine tri_region ?_
    refine s_mv (.inr rfl) (v := .sc (.bool false)) rfl rfl rfl rfl ?_
    refine rt_nil ?_
    refine tri_ret ?_
    have e0 := (some1 h); subst e0
    exact endY [] [] (rvC (resTmp rfl) rvN) trivial trivial rfl rfl rfl rfl (.free rfl)
  · replace h := cond_f h c1
    refine tri_skip ?_
    refine tri_seq ?_
    refine tri_seq ?_
    refine tri_region ?_
    refine s_mv (.inr rfl) (v := .sc (.int .i64 0)) rfl rfl rfl rfl ?_
    refine rt_nil ?_
    refine tri_block ?_
    refine tri_lstM 0 rfl (fun hl0 => ?_)
    refine tri_loop (ι := { p : (List Int) × Nat // p0.drop p.2 = p.1 ∧ w_eqByteS_l0 p1 p.1 p.2 = some r0 }) (fun p => inv_w_eqByteS_0 p0 p1 p.1.2) (fun p => p.1.1.length) ⟨(p0, 0), rfl, h⟩ ?_ ?_
    · skip
      refine entX [] [] trivial trivial rfl rfl ?_
      exact ⟨(.free rfl), (.free rfl), (.free rfl), trivial⟩
    · rintro ⟨⟨lrs0, v0_0⟩, hd0, h⟩
      replace hd0 : p0.drop v0_0 = lrs0 := hd0
      replace h : w_eqByteS_l0 p1 lrs0 v0_0 = some r0 := h
      show Tri _ _ _ (inv_w_eqByteS_0 p0 p1 v0_0)
      refine tri_seq ?_
      refine tri_seq ?_
      refine tri_region ?_
      refine s_mv (.inl rfl) (by conv => lhs; whnf) rfl rfl rfl ?_
      refine s_mv (.inl rfl) (by conv => lhs; whnf) rfl rfl rfl ?_
      refine s_lenL rfl sl22 rfl rfl rfl rfl ?_
      refine s_of (st_lss rfl rfl rfl) rfl rfl rfl rfl ?_
      refine rt_nil ?_
      refine tri_cond rfl (fun c2 => ?_) (fun c2 => ?_)
      · refine drop_elim hd0 c2 fun e0 rs0 he hx0 hn0 => ?_
        subst he
        rw [w_eqByteS_l0] at h
        refine tri_skip ?_
        refine tri_seq ?_
        refine tri_block ?_
        refine tri_seq ?_
        refine tri_draw mixed ?_
        refine s_mv (.inl rfl) (by conv => lhs; whnf) rfl rfl rfl ?_
        refine s_mv (.inl rfl) (by conv => lhs; whnf) rfl rfl rfl ?_
        refine s_indexF (i := v0_0) rfl rfl rfl sl22 (get_ltM hx0) rfl rfl rfl ?_
        refine s_loadF rfl rfl (rowG hx0) ty5 rfl (.inr rfl) (by conv => lhs; whnf) rfl rfl rfl ?_
        refine s_mv (.inl rfl) (by conv => lhs; whnf) rfl rfl rfl ?_
        refine s_mv (.inl rfl) (by conv => lhs; whnf) rfl rfl rfl ?_
        refine bnd1_elim h fun x3 q4 h => ?_
        have q4a := (idx_some q4).1; have q4b := (idx_some q4).2
        refine s_indexFZ rfl rfl rfl sl22 q4a (get_ltM q4b) rfl rfl rfl ?_
        refine s_loadF rfl rfl (rowG q4b) ty5 rfl (.inr rfl) (by conv => lhs; whnf) rfl rfl rfl ?_
        refine s_of (st_neI rfl rfl rfl) rfl rfl rfl rfl ?_
        refine rt_nil ⟨by kernel_rfl, ?_⟩
        refine tri_cond rfl (fun c5 => ?_) (fun c5 => ?_)
        · replace h := cond_t h c5
          refine tri_seq ?_
          refine tri_region ?_
          refine s_mv (.inr rfl) (v := .sc (.bool false)) rfl rfl rfl rfl ?_
          refine rt_nil ?_
          refine tri_ret ?_
          have e0 := (some1 h); subst e0
          exact endY [] [] (rvC (resTmp rfl) rvN) trivial trivial rfl rfl rfl rfl (.free rfl)
        · replace h := cond_f h c5
          refine tri_skip ?_
          refine tri_region ?_
          refine s_mv (.inl rfl) (by conv => lhs; whnf) rfl rfl rfl ?_
          refine s_inc (a := v0_0) (b := 1) rfl rfl rfl rfl (by have := get_lt hx0; have := hl0; omega) rfl rfl rfl ?_
          refine s_mv (.inr rfl) (by conv => lhs; whnf) rfl rfl rfl ?_
          refine rt_nil ?_
          refine Exists.intro ⟨(rs0, (v0_0 + 1)), hn0, h⟩ (And.intro (Nat.lt_succ_self _) ?_)
          refine entX [] [] trivial trivial rfl rfl ?_
          exact ⟨(.free rfl), (.free rfl), (.free rfl), trivial⟩
      · have he := drop_f hd0 c2; subst he
        rw [w_eqByteS_l0] at h
        refine tri_exit ?_
        refine tri_seq ?_
        refine tri_region ?_
        refine s_mv (.inr rfl) (v := .sc (.bool true)) rfl rfl rfl rfl ?_
        refine rt_nil ?_
        refine tri_ret ?_
        have e0 := (some1 h); subst e0
        exact endY [] [] (rvC (resTmp rfl) rvN) trivial trivial rfl rfl rfl rfl (.free rfl)

/- laws.FnExactGetQuest -/
def inv_w_FnExactGetQuest_0 (p0 : List Int) (x8 : List Int) (j0_0 : Bool) : St := mkT 51 [(0, .lst 1 (List.map byteV p0)), (8, .ref (24, 0) 0 x8.length), (45, .sc (.bool j0_0))] [((24, 0), some ⟨5, 1, List.map byteV x8, false, true⟩)]
set_option maxRecDepth 4000 in
set_option maxHeartbeats 800000 in
theorem ww_FnExactGetQuest (p0 : List Int) (p1 : Int) (r0 : Bool) (h : w_FnExactGetQuest p0 p1 = some r0) : Runs Tryd.prog 3 [.lst 1 (List.map byteV p0), .sc (.int .i64 p1)] [] (.sc (.bool r0)) [] := by
  unfold w_FnExactGetQuest at h
  refine runsR [.tmp 4] Tryd.func3 rfl rfl rfl rfl ?_
  rw [Tryd.ntmps3]
  refine tri_seq ?_
  refine tri_region ?_
  refine s_mv (.inr rfl) (v := .sc (.bool false)) rfl rfl rfl rfl ?_
  refine rt_nil ?_
  refine tri_seq ?_
  refine tri_seq ?_
  refine tri_region ?_
  refine s_mv (.inl rfl) (by conv => lhs; whnf) rfl rfl rfl ?_
  refine s_lenL rfl sl22 rfl rfl rfl rfl ?_
  refine s_of (st_gtr rfl rfl rfl) rfl rfl rfl rfl ?_
  refine rt_nil ?_
  refine tri_cond rfl (fun c1 => ?_) (fun c1 => ?_)
  · replace h := cond_t h c1
    refine tri_seq ?_
    refine tri_region ?_
    refine s_mv (.inr rfl) (v := .sc (.bool true)) rfl rfl rfl rfl ?_
    refine rt_nil ?_
    refine tri_ret ?_
    have e0 := (some1 h); subst e0
    exact endY [] [] (rvC (resTmp rfl) rvN) trivial trivial rfl rfl rfl rfl (.free rfl)
  · replace h := cond_f h c1
    refine tri_skip ?_
    refine tri_seq ?_
    refine tri_region ?_
    refine s_mv (.inl rfl) (by conv => lhs; whnf) rfl rfl rfl ?_
    refine bnd1_elim h fun x2 q3 h => ?_
    refine s_callN (kb := []) (ns := []) (v := .ref (17, 0) 0 x2.length) rfl rfl cl6 (ww_toByteS p0 x2 q3) rfl (.cons (.free rfl) .nil) trivial memNil .nil memNil rfl ⟨(allSc_map byteV_sc), trivial⟩ memNil rfl (by first | (simp only [V.mat, V.mat1, V.mat0, matL, matT, List.length_map]; done) | (simp only [V.mat, V.mat1, V.mat0, matL, matT, List.length_map]; rfl)) rfl rfl rfl rfl ?_
    refine s_mv (.inl rfl) (by conv => lhs; whnf) rfl rfl rfl ?_
    refine bnd3_elim h fun x4 x5 x6 q7 h => ?_
    refine s_callN (kb := [(17, 0)]) (ns := []) (v := .tup [.agg (questV x4), .sc (.int .i64 x5), .sc (.int .i64 x6)]) rfl rfl cl5 (ws_GetQuest x2 p1 x4 x5 x6 q7) rfl (.cons (lendL rfl (.head _) rfl byteV_free byteV_len) (.cons (.free rfl) .nil)) trivial memNil .nil (fun _ _ => List.not_mem_nil) rfl trivial memNil rfl rfl rfl rfl rfl rfl ?_
    refine s_mv (.inl rfl) (by conv => lhs; whnf) rfl rfl rfl ?_
    refine s_extract rfl rfl rfl rfl rfl rfl ?_
    refine s_extract rfl rfl rfl rfl rfl rfl ?_
    refine s_extract rfl rfl rfl rfl rfl rfl ?_
    refine s_alloc rfl rfl rfl zc24 rfl rfl rfl rfl rfl ?_
    refine s_storeB rfl rfl rfl ty24 rfl rfl rfl rfl rfl ?_
    refine s_mv (.inr rfl) (by conv => lhs; whnf) rfl rfl rfl ?_
    refine s_mv (.inr rfl) (by conv => lhs; whnf) rfl rfl rfl ?_
    refine rt_nil ?_
    refine tri_seq ?_
    refine tri_region ?_
    refine s_mv (.inl rfl) (by conv => lhs; whnf) rfl rfl rfl ?_
    refine bnd1_elim h fun x8 q9 h => ?_
    refine s_callN (kb := []) (ns := []) (v := .ref (24, 0) 0 x8.length) rfl rfl cl6 (ww_toByteS p0 x8 q9) rfl (.cons (.free rfl) .nil) trivial memNil .nil memNil rfl ⟨(allSc_map byteV_sc), trivial⟩ memNil rfl (by first | (simp only [V.mat, V.mat1, V.mat0, matL, matT, List.length_map]; done) | (simp only [V.mat, V.mat1, V.mat0, matL, matT, List.length_map]; rfl)) rfl rfl rfl rfl ?_
    refine s_mv (.inr rfl) (by conv => lhs; whnf) rfl rfl rfl ?_
    refine rt_nil ?_
    refine tri_seq ?_
    refine tri_region ?_
    refine s_mv (.inl rfl) (by conv => lhs; whnf) rfl rfl rfl ?_
    refine s_mv (.inl rfl) (by conv => lhs; whnf) rfl rfl rfl ?_
    refine bnd3_elim h fun x10 x11 x12 q13 h => ?_
    refine s_callN (kb := [(24, 0)]) (ns := []) (v := .tup [.agg (questV x10), .sc (.int .i64 x11), .sc (.int .i64 x12)]) rfl rfl cl7 (wi_GetQuest x8 p1 x10 x11 x12 q13) rfl (.cons (lendL rfl (.head _) rfl byteV_free byteV_len) (.cons (.free rfl) .nil)) trivial memNil .nil (fun _ _ => List.not_mem_nil) rfl trivial memNil rfl rfl rfl rfl rfl rfl ?_
    refine s_mv (.inl rfl) (by conv => lhs; whnf) rfl rfl rfl ?_
    refine s_extract rfl rfl rfl rfl rfl rfl ?_
    refine s_extract rfl rfl rfl rfl rfl rfl ?_
    refine s_extract rfl rfl rfl rfl rfl rfl ?_
    refine s_alloc rfl rfl rfl zc24 rfl rfl rfl rfl rfl ?_
    refine s_storeB rfl rfl rfl ty24 rfl rfl rfl rfl rfl ?_
    refine s_mv (.inr rfl) (by conv => lhs; whnf) rfl rfl rfl ?_
    refine s_mv (.inr rfl) (by conv => lhs; whnf) rfl rfl rfl ?_
    refine rt_nil ?_
    refine tri_seq ?_
    refine tri_cutI (ι := { p : Bool // w_FnExactGetQuest_j0 p0 x8 p = some r0 }) (fun p => inv_w_FnExactGetQuest_0 p0 x8 p.1) ?_ ?_
    · skip
      refine tri_region ?_
      refine s_loadR rfl rfl rfl rfl ty24 rfl rfl rfl ?_
      refine s_loadR rfl rfl rfl rfl ty24 rfl rfl rfl ?_
      refine bnd1_elim h fun x14 q15 h => ?_
      refine s_callN (kb := []) (ns := []) (v := .sc (.bool x14)) rfl rfl cl8 (ww_eqQuest x10 x4 x14 q15) rfl (.cons (relAgg rfl) (.cons (relAgg rfl) .nil)) trivial memNil .nil memNil rfl trivial memNil rfl rfl rfl rfl rfl rfl ?_
      refine s_of (st_not rfl rfl) rfl rfl rfl rfl ?_
      refine s_mv (.inl rfl) (by conv => lhs; whnf) rfl rfl rfl ?_
      refine s_split (t := 36) rfl (fun b16 => ?_) (fun b16 => ?_)
      · replace h := cond_t h b16
        refine s_skip rfl rfl rfl ?_
        refine s_skip rfl rfl rfl ?_
        refine s_skip rfl rfl rfl ?_
        refine s_pickT rfl rfl (v := .sc (.bool true)) rfl rfl rfl rfl ?_
        refine s_mv (.inl rfl) (by conv => lhs; whnf) rfl rfl rfl ?_
        refine s_skip rfl rfl rfl ?_
        refine s_skip rfl rfl rfl ?_
        refine s_skip rfl rfl rfl ?_
        refine s_pickT rfl rfl (v := .sc (.bool true)) rfl rfl rfl rfl ?_
        refine rt_nil ?_
        refine Exists.intro ⟨true, h⟩ ?_
        refine entX [((24, 0), ⟨5, 1, List.map byteV x8, false, true⟩, some (24, 0))] [] ⟨⟨rfl, _, rfl, rfl, rfl, rfl, id, rowsCv_eq rfl (allFree_map byteV_free), rowsZ_map byteV_len⟩, trivial⟩ trivial rfl rfl ?_
        exact ⟨(.free rfl), (.ref rfl), (.free rfl), trivial⟩
      · replace h := cond_f h b16
        refine s_mv (.inl rfl) (by conv => lhs; whnf) rfl rfl rfl ?_
        refine s_mv (.inl rfl) (by conv => lhs; whnf) rfl rfl rfl ?_
        refine s_of (st_neI rfl rfl rfl) rfl rfl rfl rfl ?_
        refine s_pickF rfl rfl (by conv => lhs; whnf) rfl rfl rfl ?_
        refine s_mv (.inl rfl) (by conv => lhs; whnf) rfl rfl rfl ?_
        refine s_split (t := 41) rfl (fun b17 => ?_) (fun b17 => ?_)
        · replace h := cond_t h b17
          refine s_skip rfl rfl rfl ?_
          refine s_skip rfl rfl rfl ?_
          refine s_skip rfl rfl rfl ?_
          refine s_pickT rfl rfl (v := .sc (.bool true)) rfl rfl rfl rfl ?_
          refine rt_nil ?_
          refine Exists.intro ⟨true, h⟩ ?_
          refine entX [((24, 0), ⟨5, 1, List.map byteV x8, false, true⟩, some (24, 0))] [] ⟨⟨rfl, _, rfl, rfl, rfl, rfl, id, rowsCv_eq rfl (allFree_map byteV_free), rowsZ_map byteV_len⟩, trivial⟩ trivial rfl rfl ?_
          exact ⟨(.free rfl), (.ref rfl), (.free rfl), trivial⟩
        · replace h := cond_f h b17
          refine s_mv (.inl rfl) (by conv => lhs; whnf) rfl rfl rfl ?_
          refine s_mv (.inl rfl) (by conv => lhs; whnf) rfl rfl rfl ?_
          refine s_of (st_neI rfl rfl rfl) rfl rfl rfl rfl ?_
          refine s_pickF rfl rfl (by conv => lhs; whnf) rfl rfl rfl ?_
          refine rt_nil ?_
          refine Exists.intro ⟨!decide (x12 = x6), h⟩ ?_
          refine entX [((24, 0), ⟨5, 1, List.map byteV x8, false, true⟩, some (24, 0))] [] ⟨⟨rfl, _, rfl, rfl, rfl, rfl, id, rowsCv_eq rfl (allFree_map byteV_free), rowsZ_map byteV_len⟩, trivial⟩ trivial rfl rfl ?_
          exact ⟨(.free rfl), (.ref rfl), (.free rfl), trivial⟩
    · rintro ⟨j0_0, h⟩
      replace h : w_FnExactGetQuest_j0 p0 x8 j0_0 = some r0 := h
      unfold w_FnExactGetQuest_j0 at h
      show Tri _ _ _ (inv_w_FnExactGetQuest_0 p0 x8 j0_0)
      refine tri_cond rfl (fun c14 => ?_) (fun c14 => ?_)
      · replace h := cond_t h c14
        refine tri_seq ?_
        refine tri_region ?_
        refine s_mv (.inr rfl) (v := .sc (.bool false)) rfl rfl rfl rfl ?_
        refine rt_nil ?_
        refine tri_ret ?_
        have e0 := (some1 h); subst e0
        exact endY [] [] (rvC (resTmp rfl) rvN) trivial trivial rfl rfl rfl rfl (.free rfl)
      · replace h := cond_f h c14
        refine tri_skip ?_
        refine tri_seq ?_
        refine tri_seq ?_
        refine tri_region ?_
        refine s_mv (.inl rfl) (by conv => lhs; whnf) rfl rfl rfl ?_
        refine s_mv (.inl rfl) (by conv => lhs; whnf) rfl rfl rfl ?_
        refine bnd1_elim h fun x15 q16 h => ?_
        refine s_callN (kb := []) (ns := []) (v := .ref (48, 0) 0 x15.length) rfl rfl cl6 (ww_toByteS p0 x15 q16) rfl (.cons (.free rfl) .nil) trivial memNil .nil memNil rfl ⟨(allSc_map byteV_sc), trivial⟩ memNil rfl (by first | (simp only [V.mat, V.mat1, V.mat0, matL, matT, List.length_map]; done) | (simp only [V.mat, V.mat1, V.mat0, matL, matT, List.length_map]; rfl)) rfl rfl rfl rfl ?_
        refine bnd1_elim h fun x17 q18 h => ?_
        refine s_callN (kb := [(24, 0), (48, 0)]) (ns := []) (v := .sc (.bool x17)) rfl rfl cl9 (ww_eqByteS x8 x15 x17 q18) rfl (.cons (lendL rfl (.head _) rfl byteV_free byteV_len) (.cons (lendL rfl (.tail _ (.head _)) rfl byteV_free byteV_len) .nil)) trivial memNil .nil (fun _ _ => List.not_mem_nil) rfl trivial memNil rfl rfl rfl rfl rfl rfl ?_
        refine s_of (st_not rfl rfl) rfl rfl rfl rfl ?_
        refine rt_nil ?_
        refine tri_cond rfl (fun c19 => ?_) (fun c19 => ?_)
        · replace h := cond_t h c19
          refine tri_seq ?_
          refine tri_region ?_
          refine s_mv (.inr rfl) (v := .sc (.bool false)) rfl rfl rfl rfl ?_
          refine rt_nil ?_
          refine tri_ret ?_
          have e0 := (some1 h); subst e0
          exact endY [] [] (rvC (resTmp rfl) rvN) trivial trivial rfl rfl rfl rfl (.free rfl)
        · replace h := cond_f h c19
          refine tri_skip ?_
          refine tri_seq ?_
          refine tri_region ?_
          refine s_mv (.inr rfl) (v := .sc (.bool true)) rfl rfl rfl rfl ?_
          refine rt_nil ?_
          refine tri_ret ?_
          have e0 := (some1 h); subst e0
          exact endY [] [] (rvC (resTmp rfl) rvN) trivial trivial rfl rfl rfl rfl (.free rfl)

end Go.Abs.M
