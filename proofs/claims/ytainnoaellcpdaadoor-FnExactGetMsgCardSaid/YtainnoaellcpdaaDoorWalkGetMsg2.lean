/- Walks of the functions that the law of GetMsg reaches: what each of them computes, where its pure function does not fail. -/
import Derived.Test.YtainnoaellcpdaaDoorWalkGetMsg1
set_option linter.unusedSimpArgs false
set_option linter.unusedVariables false
namespace Go.Abs.M
open Go Go.Abs Go.Proofs
theorem cl19 : callable Tryd.prog 19 = true := by kernel_rfl
theorem cl21 : callable Tryd.prog 21 = true := by kernel_rfl
theorem cl38 : callable Tryd.prog 38 = true := by kernel_rfl
theorem cl54 : callable Tryd.prog 54 = true := by kernel_rfl
theorem cl55 : callable Tryd.prog 55 = true := by kernel_rfl
theorem cl56 : callable Tryd.prog 56 = true := by kernel_rfl
theorem cl64 : callable Tryd.prog 64 = true := by kernel_rfl
theorem cl65 : callable Tryd.prog 65 = true := by kernel_rfl
theorem cl66 : callable Tryd.prog 66 = true := by kernel_rfl
/- impl.GetQuest -/
def inv_i_GetQuest_0 (x1 : ByteArray) (x2 : Int) (x8 : Int) (j0_0 : Bool) : St := mkT 59 [(4, .ptr (4, 0) 0 0), (8, .sc (.int .i64 x2)), (14, .ptr (14, 0) 0 0), (54, .sc (.bool j0_0))] [((4, 0), some ⟨24, 2, [[.sc (.string (⟨#[]⟩ : ByteArray)), .sc (.int .i64 0)]], false, true⟩), ((14, 0), some ⟨24, 2, [[.sc (.string x1), .sc (.int .i64 x8)]], false, true⟩)]
set_option maxRecDepth 4000 in
set_option maxHeartbeats 800000 in
theorem wi_GetQuest (p0 : List Int) (p1 : Int) (r0 : Quest) (r1 : Int) (r2 : Int) (h : i_GetQuest p0 p1 = some (r0, r1, r2)) : Runs Tryd.prog 7 [.lst 1 (List.map byteV p0), .sc (.int .i64 p1)] [] (.tup [.agg (questV r0), .sc (.int .i64 r1), .sc (.int .i64 r2)]) [] := by
 unfold i_GetQuest at h
 refine runsR [.cell 4 24, .tmp 5, .tmp 6] Tryd.func7 rfl rfl rfl rfl ?_
 rw [Tryd.ntmps7]
 refine tri_sr ?_
 refine s_alloc rfl rfl rfl zc24 rfl rfl rfl rfl rfl ?_
 refine s_mv (.inr rfl) (v := .sc (.int .i64 0)) rfl rfl rfl rfl ?_
 refine s_mv (.inr rfl) (v := .sc (.int .i64 0)) rfl rfl rfl rfl ?_
 refine rt_nil ?_
 refine tri_sr ?_
 refine m1 ?_
 refine m1 ?_
 refine bnd3_elim h fun x1 x2 x3 q4 h => ?_
 refine s_callN (kb := []) (ns := []) (v := .tup [.sc (.string x1), .sc (.int .i64 x2), .sc (.int .i64 x3)]) rfl rfl cl19 (wi_GetName p0 p1 x1 x2 x3 q4) rfl (.cons (.free rfl) (.cons (.free rfl) .nil)) trivial memNil .nil memNil rfl trivial memNil rfl rfl rfl rfl rfl rfl ?_
 refine m1 ?_
 refine s_extract rfl rfl rfl rfl rfl rfl ?_
 refine s_extract rfl rfl rfl rfl rfl rfl ?_
 refine s_extract rfl rfl rfl rfl rfl rfl ?_
 refine m2 ?_
 refine m2 ?_
 refine m2 ?_
 refine rt_nil ?_
 refine tri_seq ?_
 refine tri_sr ?_
 refine m1 ?_
 refine s_of (st_neI rfl rfl rfl) rfl rfl rfl rfl ?_
 refine rt_nil ?_
 refine tri_cond rfl (fun c5 => ?_) (fun c5 => ?_)
 ·replace h := cond_t h c5
  refine tri_sr ?_
  refine s_build (cells' := [.sc (.string (⟨#[]⟩ : ByteArray)), .sc (.int .i64 0)]) rfl stc24 rfl rfl rfl rfl rfl rfl rfl ?_
  refine m1 ?_
  refine s_storeB rfl rfl rfl ty24 rfl rfl rfl rfl rfl ?_
  refine s_mv (.inr rfl) (v := .sc (.int .i64 0)) rfl rfl rfl rfl ?_
  refine m2 ?_
  refine rt_nil ?_
  refine tri_ret ?_
  have e0 := (some3 h).1; have e1 := (some3 h).2.1; have e2 := (some3 h).2.2; subst e0; subst e1; subst e2
  exact endY [] [] (rvC (resCell rfl rfl ty24) (rvC (resTmp rfl) (rvC (resTmp rfl) rvN))) trivial trivial rfl rfl rfl rfl (CvL.tup (.cons (cvAgg rfl) (.cons (.free rfl) (.cons (.free rfl) .nil))))
 ·replace h := cond_f h c5
  refine tri_skip ?_
  refine tri_seq ?_
  refine tri_sr ?_
  refine m1 ?_
  refine s_lenL rfl sl22 rfl rfl rfl rfl ?_
  refine m1 ?_
  refine grd_elim h fun g6 h => ?_
  refine s_subI rfl rfl rfl rfl g6 rfl rfl rfl ?_
  refine s_of (st_lss rfl rfl rfl) rfl rfl rfl rfl ?_
  refine rt_nil ?_
  refine tri_cond rfl (fun c7 => ?_) (fun c7 => ?_)
  ·replace h := cond_t h c7
   refine tri_sr ?_
   refine s_build (cells' := [.sc (.string (⟨#[]⟩ : ByteArray)), .sc (.int .i64 0)]) rfl stc24 rfl rfl rfl rfl rfl rfl rfl ?_
   refine s_storeB rfl rfl rfl ty24 rfl rfl rfl rfl rfl ?_
   refine s_mv (.inr rfl) (v := .sc (.int .i64 0)) rfl rfl rfl rfl ?_
   refine s_mv (.inr rfl) (v := .sc (.int .i64 1)) rfl rfl rfl rfl ?_
   refine rt_nil ?_
   refine tri_ret ?_
   have e0 := (some3 h).1; have e1 := (some3 h).2.1; have e2 := (some3 h).2.2; subst e0; subst e1; subst e2
   exact endY [] [] (rvC (resCell rfl rfl ty24) (rvC (resTmp rfl) (rvC (resTmp rfl) rvN))) trivial trivial rfl rfl rfl rfl (CvL.tup (.cons (cvAgg rfl) (.cons (.free rfl) (.cons (.free rfl) .nil))))
  ·replace h := cond_f h c7
   refine tri_skip ?_
   refine tri_sr ?_
   refine m1 ?_
   refine m1 ?_
   refine bnd2_elim h fun x8 x9 q10 h => ?_
   refine s_callN (kb := []) (ns := []) (v := .tup [.sc (.int .i64 x8), .sc (.bool x9)]) rfl rfl cl20 (wi_Get2 p0 x2 x8 x9 q10) rfl (.cons (.free rfl) (.cons (.free rfl) .nil)) trivial memNil .nil memNil rfl trivial memNil rfl rfl rfl rfl rfl rfl ?_
   refine m1 ?_
   refine s_extract rfl rfl rfl rfl rfl rfl ?_
   refine s_extract rfl rfl rfl rfl rfl rfl ?_
   refine m2 ?_
   refine m2 ?_
   refine rt_nil ?_
   refine tri_sr ?_
   refine m1 ?_
   refine m1 ?_
   refine grd_elim h fun g11 h => ?_
   refine s_addI rfl rfl rfl rfl g11 rfl rfl rfl ?_
   refine bnd2_elim h fun x12 x13 q14 h => ?_
   refine s_callN (kb := []) (ns := []) (v := .tup [.sc (.int .i64 x12), .sc (.bool x13)]) rfl rfl cl20 (wi_Get2 p0 (x2 + 2) x12 x13 q14) rfl (.cons (.free rfl) (.cons (.free rfl) .nil)) trivial memNil .nil memNil rfl trivial memNil rfl rfl rfl rfl rfl rfl ?_
   refine m1 ?_
   refine s_extract rfl rfl rfl rfl rfl rfl ?_
   refine s_extract rfl rfl rfl rfl rfl rfl ?_
   refine m2 ?_
   refine m2 ?_
   refine rt_nil ?_
   refine tri_sr ?_
   refine m1 ?_
   refine m1 ?_
   refine s_build (cells' := [.sc (.string x1), .sc (.int .i64 x8)]) rfl stc24 rfl rfl rfl rfl rfl rfl rfl ?_
   refine s_alloc rfl rfl rfl zc24 rfl rfl rfl rfl rfl ?_
   refine s_storeB rfl rfl rfl ty24 rfl rfl rfl rfl rfl ?_
   refine rt_nil ?_
   refine tri_seq ?_
   refine tri_cutI (ι := { p : Bool // i_GetQuest_j0 x1 x2 x8 p = some (r0, r1, r2) }) (fun p => inv_i_GetQuest_0 x1 x2 x8 p.1) ?_ ?_
   ·skip
    refine tri_region ?_
    refine s_loadR rfl rfl rfl rfl ty24 rfl rfl rfl ?_
    refine bnd1_elim h fun x15 q16 h => ?_
    refine s_callN (kb := []) (ns := []) (v := .sc (.bool x15)) rfl rfl cl21 (wi_QuestOk (Quest.mk x1 x8) x15 q16) rfl (.cons (relAgg rfl) .nil) trivial memNil .nil memNil rfl trivial memNil rfl rfl rfl rfl rfl rfl ?_
    refine s_of (st_not rfl rfl) rfl rfl rfl rfl ?_
    refine m1 ?_
    refine s_split (t := 51) rfl (fun b17 => ?_) (fun b17 => ?_)
    ·replace h := cond_t h b17
     refine s_skip rfl rfl rfl ?_
     refine s_skip rfl rfl rfl ?_
     refine s_pickT rfl rfl (v := .sc (.bool true)) rfl rfl rfl rfl ?_
     refine rt_nil ?_
     refine Exists.intro ⟨true, h⟩ ?_
     refine entX [((4, 0), ⟨24, 2, [[.sc (.string (⟨#[]⟩ : ByteArray)), .sc (.int .i64 0)]], false, true⟩, some (4, 0)), ((14, 0), ⟨24, 2, [[.sc (.string x1), .sc (.int .i64 x8)]], false, true⟩, some (14, 0))] [] ⟨⟨rfl, _, rfl, rfl, rfl, rfl, id, rowsCv_one (.cons (.free rfl) (.cons (.free rfl) .nil)), rowsZ_one rfl⟩, ⟨rfl, _, rfl, rfl, rfl, rfl, id, rowsCv_one (.cons (.free rfl) (.cons (.free rfl) .nil)), rowsZ_one rfl⟩, trivial⟩ trivial rfl rfl ?_
     exact ⟨(.ptr rfl), (.free rfl), (.ptr rfl), (.free rfl), trivial⟩
    ·replace h := cond_f h b17
     refine m1 ?_
     refine s_of (st_neI rfl rfl rfl) rfl rfl rfl rfl ?_
     refine s_pickF rfl rfl (by conv => lhs; whnf) rfl rfl rfl ?_
     refine rt_nil ?_
     refine Exists.intro ⟨!decide (x12 = 1), h⟩ ?_
     refine entX [((4, 0), ⟨24, 2, [[.sc (.string (⟨#[]⟩ : ByteArray)), .sc (.int .i64 0)]], false, true⟩, some (4, 0)), ((14, 0), ⟨24, 2, [[.sc (.string x1), .sc (.int .i64 x8)]], false, true⟩, some (14, 0))] [] ⟨⟨rfl, _, rfl, rfl, rfl, rfl, id, rowsCv_one (.cons (.free rfl) (.cons (.free rfl) .nil)), rowsZ_one rfl⟩, ⟨rfl, _, rfl, rfl, rfl, rfl, id, rowsCv_one (.cons (.free rfl) (.cons (.free rfl) .nil)), rowsZ_one rfl⟩, trivial⟩ trivial rfl rfl ?_
     exact ⟨(.ptr rfl), (.free rfl), (.ptr rfl), (.free rfl), trivial⟩
   ·rintro ⟨j0_0, h⟩
    replace h : i_GetQuest_j0 x1 x2 x8 j0_0 = some (r0, r1, r2) := h
    unfold i_GetQuest_j0 at h
    show Tri _ _ _ (inv_i_GetQuest_0 x1 x2 x8 j0_0)
    refine tri_cond rfl (fun c15 => ?_) (fun c15 => ?_)
    ·replace h := cond_t h c15
     refine tri_sr ?_
     refine s_build (cells' := [.sc (.string (⟨#[]⟩ : ByteArray)), .sc (.int .i64 0)]) rfl stc24 rfl rfl rfl rfl rfl rfl rfl ?_
     refine s_storeB rfl rfl rfl ty24 rfl rfl rfl rfl rfl ?_
     refine s_mv (.inr rfl) (v := .sc (.int .i64 0)) rfl rfl rfl rfl ?_
     refine s_mv (.inr rfl) (v := .sc (.int .i64 2)) rfl rfl rfl rfl ?_
     refine rt_nil ?_
     refine tri_ret ?_
     have e0 := (some3 h).1; have e1 := (some3 h).2.1; have e2 := (some3 h).2.2; subst e0; subst e1; subst e2
     exact endY [] [] (rvC (resCell rfl rfl ty24) (rvC (resTmp rfl) (rvC (resTmp rfl) rvN))) trivial trivial rfl rfl rfl rfl (CvL.tup (.cons (cvAgg rfl) (.cons (.free rfl) (.cons (.free rfl) .nil))))
    ·replace h := cond_f h c15
     refine tri_skip ?_
     refine tri_sr ?_
     refine s_loadR rfl rfl rfl rfl ty24 rfl rfl rfl ?_
     refine m1 ?_
     refine grd_elim h fun g16 h => ?_
     refine s_addI rfl rfl rfl rfl g16 rfl rfl rfl ?_
     refine s_storeB rfl rfl rfl ty24 rfl rfl rfl rfl rfl ?_
     refine m2 ?_
     refine s_mv (.inr rfl) (v := .sc (.int .i64 0)) rfl rfl rfl rfl ?_
     refine rt_nil ?_
     refine tri_ret ?_
     have e0 := (some3 h).1; have e1 := (some3 h).2.1; have e2 := (some3 h).2.2; subst e0; subst e1; subst e2
     exact endY [] [] (rvC (resCell rfl rfl ty24) (rvC (resTmp rfl) (rvC (resTmp rfl) rvN))) trivial trivial rfl rfl rfl rfl (CvL.tup (.cons (cvAgg rfl) (.cons (.free rfl) (.cons (.free rfl) .nil))))

/- impl.Get4 -/

set_option maxRecDepth 4000 in
set_option maxHeartbeats 800000 in
theorem wi_Get4 (p0 : List Int) (p1 : Int) (r0 : Int) (r1 : Bool) (h : i_Get4 p0 p1 = some (r0, r1)) : Runs Tryd.prog 54 [.lst 1 (List.map byteV p0), .sc (.int .i64 p1)] [] (.tup [.sc (.int .i64 r0), .sc (.bool r1)]) [] := by
 unfold i_Get4 at h
 refine runsR [.tmp 4, .tmp 5] Tryd.func54 rfl rfl rfl rfl ?_
 rw [Tryd.ntmps54]
 refine tri_sr ?_
 refine s_mv (.inr rfl) (v := .sc (.int .i64 0)) rfl rfl rfl rfl ?_
 refine s_mv (.inr rfl) (v := .sc (.bool false)) rfl rfl rfl rfl ?_
 refine rt_nil ?_
 refine tri_sr ?_
 refine m1 ?_
 refine m1 ?_
 refine bnd2_elim h fun x1 x2 q3 h => ?_
 refine s_callN (kb := []) (ns := []) (v := .tup [.sc (.int .i64 x1), .sc (.bool x2)]) rfl rfl cl33 (wi_getBytes p0 p1 4 2147483647 x1 x2 q3) rfl (.cons (.free rfl) (.cons (.free rfl) (.cons (.free rfl) (.cons (.free rfl) .nil)))) trivial memNil .nil memNil rfl trivial memNil rfl rfl rfl rfl rfl rfl ?_
 refine s_extract rfl rfl rfl rfl rfl rfl ?_
 refine s_extract rfl rfl rfl rfl rfl rfl ?_
 refine m2 ?_
 refine m2 ?_
 refine rt_nil ?_
 refine tri_ret ?_
 have e0 := (some2 h).1; have e1 := (some2 h).2; subst e0; subst e1
 exact endY [] [] (rvC (resTmp rfl) (rvC (resTmp rfl) rvN)) trivial trivial rfl rfl rfl rfl (CvL.tup (.cons (.free rfl) (.cons (.free rfl) .nil)))

/- impl.isText -/
def inv_i_isText_2 (p0 : ByteArray) (v1_0 : Int) (j2_0 : Bool) : St := mkT 23 [(0, .sc (.string p0)), (5, .sc (.int .i64 (p0.size : Int))), (6, .sc (.int .i64 v1_0)), (18, .sc (.bool j2_0))] []
def inv_i_isText_1 (p0 : ByteArray) (v1_0 : Int) : St := mkT 23 [(0, .sc (.string p0)), (5, .sc (.int .i64 (p0.size : Int))), (6, .sc (.int .i64 v1_0))] []
def inv_i_isText_0 (p0 : ByteArray) : St := mkT 23 [(0, .sc (.string p0))] []
set_option maxRecDepth 4000 in
set_option maxHeartbeats 800000 in
theorem wi_isText (p0 : ByteArray) (r0 : Bool) (h : i_isText p0 = some r0) : Runs Tryd.prog 64 [.sc (.string p0)] [] (.sc (.bool r0)) [] := by
 unfold i_isText at h
 refine runsR [.tmp 2] Tryd.func64 rfl rfl rfl rfl ?_
 rw [Tryd.ntmps64]
 refine tri_sr ?_
 refine s_mv (.inr rfl) (v := .sc (.bool false)) rfl rfl rfl rfl ?_
 refine rt_nil ?_
 refine tri_cutI (ι := { p : Unit // i_isText_j0 p0 = some r0 }) (fun p => inv_i_isText_0 p0) ?_ ?_
 ·skip
  refine tri_sr ?_
  refine m1 ?_
  refine s_of (st_lenS rfl rfl iss9) rfl rfl rfl rfl ?_
  refine s_mv (.inl rfl) (v := .sc (.int .i64 0)) rfl rfl rfl rfl ?_
  refine rt_nil ?_
  refine tri_block ?_
  refine tri_loop (ι := { p : Nat × Int // i_isText_l1 p0 p.1 p.2 = some r0 }) (fun p => inv_i_isText_1 p0 p.1.2) (fun p => p.1.1) ⟨(fuel0, 0), h⟩ ?_ ?_
  ·skip
   refine entX [] [] trivial trivial rfl rfl ?_
   exact ⟨(.free rfl), (.free rfl), (.free rfl), trivial⟩
  ·rintro ⟨⟨f1, v1_0⟩, h⟩
   replace h : i_isText_l1 p0 f1 v1_0 = some r0 := h
   cases f1 with
   | zero => cases h
   | succ f1 =>
   rw [i_isText_l1] at h
   show Tri _ _ _ (inv_i_isText_1 p0 v1_0)
   refine tri_sr ?_
   refine s_of (st_lss rfl rfl rfl) rfl rfl rfl rfl ?_
   refine rt_nil ?_
   refine tri_seq ?_
   refine tri_cond rfl (fun c1 => ?_) (fun c1 => ?_)
   ·replace h := cond_t h c1
    refine tri_skip ?_
    refine tri_seq ?_
    refine tri_block ?_
    refine tri_sr ?_
    refine m1 ?_
    refine m2 ?_
    refine rt_nil ?_
    refine tri_cutI (ι := { p : Bool // i_isText_j2 v1_0 (i_isText_l1 p0 f1) p = some r0 }) (fun p => inv_i_isText_2 p0 v1_0 p.1) ?_ ?_
    ·skip
     refine tri_region ?_
     refine m1 ?_
     refine m1 ?_
     refine bnd1_elim h fun x2 q3 h => ?_
     refine s_idxS rfl rfl rfl iss9 q3 rfl rfl rfl ?_
     refine s_of (st_lss rfl rfl rfl) rfl rfl rfl rfl ?_
     refine m1 ?_
     refine s_split (t := 13) rfl (fun b4 => ?_) (fun b4 => ?_)
     ·replace h := cond_t h b4
      refine s_skip rfl rfl rfl ?_
      refine s_skip rfl rfl rfl ?_
      refine s_skip rfl rfl rfl ?_
      refine s_skip rfl rfl rfl ?_
      refine s_pickT rfl rfl (v := .sc (.bool true)) rfl rfl rfl rfl ?_
      refine rt_nil ?_
      refine Exists.intro ⟨true, h⟩ ?_
      refine entX [] [] trivial trivial rfl rfl ?_
      exact ⟨(.free rfl), (.free rfl), (.free rfl), (.free rfl), trivial⟩
     ·replace h := cond_f h b4
      refine m1 ?_
      refine m1 ?_
      refine bnd1_elim h fun x5 q6 h => ?_
      refine s_idxS rfl rfl rfl iss9 q6 rfl rfl rfl ?_
      refine s_of (st_gtr rfl rfl rfl) rfl rfl rfl rfl ?_
      refine s_pickF rfl rfl (by conv => lhs; whnf) rfl rfl rfl ?_
      refine rt_nil ?_
      refine Exists.intro ⟨decide (126 < x5), h⟩ ?_
      refine entX [] [] trivial trivial rfl rfl ?_
      exact ⟨(.free rfl), (.free rfl), (.free rfl), (.free rfl), trivial⟩
    ·rintro ⟨j2_0, h⟩
     replace h : i_isText_j2 v1_0 (i_isText_l1 p0 f1) j2_0 = some r0 := h
     unfold i_isText_j2 at h
     show Tri _ _ _ (inv_i_isText_2 p0 v1_0 j2_0)
     refine tri_cond rfl (fun c2 => ?_) (fun c2 => ?_)
     ·replace h := cond_t h c2
      refine tri_sr ?_
      refine s_mv (.inr rfl) (v := .sc (.bool false)) rfl rfl rfl rfl ?_
      refine rt_nil ?_
      refine tri_ret ?_
      have e0 := (some1 h); subst e0
      exact endY [] [] (rvC (resTmp rfl) rvN) trivial trivial rfl rfl rfl rfl (.free rfl)
     ·replace h := cond_f h c2
      refine tri_skip ?_
      refine tri_region ?_
      refine grd_elim h fun g3 h => ?_
      refine s_addI rfl rfl rfl rfl g3 rfl rfl rfl ?_
      refine m1 ?_
      refine rt_nil ?_
      refine Exists.intro ⟨(f1, v1_0 + 1), h⟩ (And.intro (Nat.lt_succ_self _) ?_)
      refine entX [] [] trivial trivial rfl rfl ?_
      exact ⟨(.free rfl), (.free rfl), (.free rfl), trivial⟩
   ·replace h := cond_f h c1
    refine tri_exit ?_
    refine Exists.intro ⟨(), h⟩ ?_
    refine entX [] [] trivial trivial rfl rfl ?_
    exact ⟨(.free rfl), trivial⟩
 ·rintro ⟨u, h⟩
  replace h : i_isText_j0 p0 = some r0 := h
  unfold i_isText_j0 at h
  show Tri _ _ _ (inv_i_isText_0 p0)
  refine tri_sr ?_
  refine m1 ?_
  refine s_of (st_lenS rfl rfl iss9) rfl rfl rfl rfl ?_
  refine s_of (st_leq rfl rfl rfl) rfl rfl rfl rfl ?_
  refine m2 ?_
  refine rt_nil ?_
  refine tri_ret ?_
  have e0 := (some1 h); subst e0
  exact endY [] [] (rvC (resTmp rfl) rvN) trivial trivial rfl rfl rfl rfl (.free rfl)

/- impl.GetData -/
def inv_i_GetData_3 (p3 : Int) (j2_0 : Int) (j2_1 : ByteArray) (j2_2 : ByteArray) (j3_0 : Bool) : St := mkT 120 [(8, .ptr (8, 0) 0 0), (10, .ptr (10, 0) 0 0), (117, .sc (.bool j3_0))] [((8, 0), some ⟨62, 6, [[.sc (.string (⟨#[]⟩ : ByteArray)), .sc (.int .i64 0), .sc (.int .i64 0), .sc (.int .i64 0), .sc (.string (⟨#[]⟩ : ByteArray)), .sc (.string (⟨#[]⟩ : ByteArray))]], false, true⟩), ((10, 0), some ⟨62, 6, [[.sc (.string (⟨#[]⟩ : ByteArray)), .sc (.int .i64 p3), .sc (.int .i64 0), .sc (.int .i64 j2_0), .sc (.string j2_1), .sc (.string j2_2)]], false, true⟩)]
def inv_i_GetData_2 (p1 : Int) (p2 : Int) (p3 : Int) (j2_0 : Int) (j2_1 : ByteArray) (j2_2 : ByteArray) (j2_3 : Int) (j2_4 : Bool) : St := mkT 120 [(1, .sc (.int .i64 p1)), (2, .sc (.int .i64 p2)), (8, .ptr (8, 0) 0 0), (10, .ptr (10, 0) 0 0), (11, .sc (.int .i64 j2_3)), (12, .sc (.bool j2_4))] [((8, 0), some ⟨62, 6, [[.sc (.string (⟨#[]⟩ : ByteArray)), .sc (.int .i64 0), .sc (.int .i64 0), .sc (.int .i64 0), .sc (.string (⟨#[]⟩ : ByteArray)), .sc (.string (⟨#[]⟩ : ByteArray))]], false, true⟩), ((10, 0), some ⟨62, 6, [[.sc (.string (⟨#[]⟩ : ByteArray)), .sc (.int .i64 p3), .sc (.int .i64 0), .sc (.int .i64 j2_0), .sc (.string j2_1), .sc (.string j2_2)]], false, true⟩)]
def inv_i_GetData_1 (p0 : List Int) (p1 : Int) (p2 : Int) (p3 : Int) (j1_0 : Bool) : St := mkT 120 [(0, .lst 1 (List.map byteV p0)), (1, .sc (.int .i64 p1)), (2, .sc (.int .i64 p2)), (3, .sc (.int .i64 p3)), (8, .ptr (8, 0) 0 0), (24, .sc (.bool j1_0))] [((8, 0), some ⟨62, 6, [[.sc (.string (⟨#[]⟩ : ByteArray)), .sc (.int .i64 0), .sc (.int .i64 0), .sc (.int .i64 0), .sc (.string (⟨#[]⟩ : ByteArray)), .sc (.string (⟨#[]⟩ : ByteArray))]], false, true⟩)]
def inv_i_GetData_0 (p0 : List Int) (p1 : Int) (p2 : Int) (p3 : Int) (j0_0 : Bool) : St := mkT 120 [(0, .lst 1 (List.map byteV p0)), (1, .sc (.int .i64 p1)), (2, .sc (.int .i64 p2)), (3, .sc (.int .i64 p3)), (8, .ptr (8, 0) 0 0), (16, .sc (.bool j0_0))] [((8, 0), some ⟨62, 6, [[.sc (.string (⟨#[]⟩ : ByteArray)), .sc (.int .i64 0), .sc (.int .i64 0), .sc (.int .i64 0), .sc (.string (⟨#[]⟩ : ByteArray)), .sc (.string (⟨#[]⟩ : ByteArray))]], false, true⟩)]
set_option maxRecDepth 4000 in
set_option maxHeartbeats 800000 in
theorem wi_GetData (p0 : List Int) (p1 : Int) (p2 : Int) (p3 : Int) (r0 : Rec) (r1 : Int) (h : i_GetData p0 p1 p2 p3 = some (r0, r1)) : Runs Tryd.prog 55 [.lst 1 (List.map byteV p0), .sc (.int .i64 p1), .sc (.int .i64 p2), .sc (.int .i64 p3)] [] (.tup [.agg (recV r0), .sc (.int .i64 r1)]) [] := by
 unfold i_GetData at h
 refine runsR [.cell 8 62, .tmp 9] Tryd.func55 rfl rfl rfl rfl ?_
 rw [Tryd.ntmps55]
 refine tri_sr ?_
 refine s_alloc rfl rfl rfl zc62 rfl rfl rfl rfl rfl ?_
 refine s_mv (.inr rfl) (v := .sc (.int .i64 0)) rfl rfl rfl rfl ?_
 refine rt_nil ?_
 refine tri_seq ?_
 refine tri_block ?_
 refine tri_cutI (ι := { p : Bool // i_GetData_j0 p0 p1 p2 p3 p = some (r0, r1) }) (fun p => inv_i_GetData_0 p0 p1 p2 p3 p.1) ?_ ?_
 ·skip
  refine tri_region ?_
  refine m1 ?_
  refine s_of (st_lss rfl rfl rfl) rfl rfl rfl rfl ?_
  refine m1 ?_
  refine s_split (t := 19) rfl (fun b1 => ?_) (fun b1 => ?_)
  ·replace h := cond_t h b1
   refine s_skip rfl rfl rfl ?_
   refine s_skip rfl rfl rfl ?_
   refine s_pickT rfl rfl (v := .sc (.bool true)) rfl rfl rfl rfl ?_
   refine m2 ?_
   refine rt_nil ?_
   refine Exists.intro ⟨true, h⟩ ?_
   refine entX [((8, 0), ⟨62, 6, [[.sc (.string (⟨#[]⟩ : ByteArray)), .sc (.int .i64 0), .sc (.int .i64 0), .sc (.int .i64 0), .sc (.string (⟨#[]⟩ : ByteArray)), .sc (.string (⟨#[]⟩ : ByteArray))]], false, true⟩, some (8, 0))] [] ⟨⟨rfl, _, rfl, rfl, rfl, rfl, id, rowsCv_one (.cons (.free rfl) (.cons (.free rfl) (.cons (.free rfl) (.cons (.free rfl) (.cons (.free rfl) (.cons (.free rfl) .nil)))))), rowsZ_one rfl⟩, trivial⟩ trivial rfl rfl ?_
   exact ⟨(.free rfl), (.free rfl), (.free rfl), (.free rfl), (.ptr rfl), (.free rfl), trivial⟩
  ·replace h := cond_f h b1
   refine m1 ?_
   refine s_of (st_gtr rfl rfl rfl) rfl rfl rfl rfl ?_
   refine s_pickF rfl rfl (by conv => lhs; whnf) rfl rfl rfl ?_
   refine m2 ?_
   refine rt_nil ?_
   refine Exists.intro ⟨decide (255 < p2), h⟩ ?_
   refine entX [((8, 0), ⟨62, 6, [[.sc (.string (⟨#[]⟩ : ByteArray)), .sc (.int .i64 0), .sc (.int .i64 0), .sc (.int .i64 0), .sc (.string (⟨#[]⟩ : ByteArray)), .sc (.string (⟨#[]⟩ : ByteArray))]], false, true⟩, some (8, 0))] [] ⟨⟨rfl, _, rfl, rfl, rfl, rfl, id, rowsCv_one (.cons (.free rfl) (.cons (.free rfl) (.cons (.free rfl) (.cons (.free rfl) (.cons (.free rfl) (.cons (.free rfl) .nil)))))), rowsZ_one rfl⟩, trivial⟩ trivial rfl rfl ?_
   exact ⟨(.free rfl), (.free rfl), (.free rfl), (.free rfl), (.ptr rfl), (.free rfl), trivial⟩
 ·rintro ⟨j0_0, h⟩
  replace h : i_GetData_j0 p0 p1 p2 p3 j0_0 = some (r0, r1) := h
  unfold i_GetData_j0 at h
  show Tri _ _ _ (inv_i_GetData_0 p0 p1 p2 p3 j0_0)
  refine tri_cond rfl (fun c1 => ?_) (fun c1 => ?_)
  ·replace h := cond_t h c1
   refine tri_sr ?_
   refine s_build (cells' := [.sc (.string (⟨#[]⟩ : ByteArray)), .sc (.int .i64 0), .sc (.int .i64 0), .sc (.int .i64 0), .sc (.string (⟨#[]⟩ : ByteArray)), .sc (.string (⟨#[]⟩ : ByteArray))]) rfl stc62 rfl rfl rfl rfl rfl rfl rfl ?_
   refine s_storeB rfl rfl rfl ty62 rfl rfl rfl rfl rfl ?_
   refine s_mv (.inr rfl) (v := .sc (.int .i64 2)) rfl rfl rfl rfl ?_
   refine rt_nil ?_
   refine tri_ret ?_
   have e0 := (some2 h).1; have e1 := (some2 h).2; subst e0; subst e1
   exact endY [] [] (rvC (resCell rfl rfl ty62) (rvC (resTmp rfl) rvN)) trivial trivial rfl rfl rfl rfl (CvL.tup (.cons (cvAgg rfl) (.cons (.free rfl) .nil)))
  ·replace h := cond_f h c1
   refine tri_cutI (ι := { p : Bool // i_GetData_j1 p0 p1 p2 p3 p = some (r0, r1) }) (fun p => inv_i_GetData_1 p0 p1 p2 p3 p.1) ?_ ?_
   ·skip
    refine tri_region ?_
    refine m1 ?_
    refine s_of (st_lss rfl rfl rfl) rfl rfl rfl rfl ?_
    refine m1 ?_
    refine s_split (t := 27) rfl (fun b2 => ?_) (fun b2 => ?_)
    ·replace h := cond_t h b2
     refine s_skip rfl rfl rfl ?_
     refine s_skip rfl rfl rfl ?_
     refine s_skip rfl rfl rfl ?_
     refine s_skip rfl rfl rfl ?_
     refine s_skip rfl rfl rfl ?_
     refine s_skip rfl rfl rfl ?_
     refine s_pickT rfl rfl (v := .sc (.bool true)) rfl rfl rfl rfl ?_
     refine m2 ?_
     refine rt_nil ?_
     refine Exists.intro ⟨true, h⟩ ?_
     refine entX [((8, 0), ⟨62, 6, [[.sc (.string (⟨#[]⟩ : ByteArray)), .sc (.int .i64 0), .sc (.int .i64 0), .sc (.int .i64 0), .sc (.string (⟨#[]⟩ : ByteArray)), .sc (.string (⟨#[]⟩ : ByteArray))]], false, true⟩, some (8, 0))] [] ⟨⟨rfl, _, rfl, rfl, rfl, rfl, id, rowsCv_one (.cons (.free rfl) (.cons (.free rfl) (.cons (.free rfl) (.cons (.free rfl) (.cons (.free rfl) (.cons (.free rfl) .nil)))))), rowsZ_one rfl⟩, trivial⟩ trivial rfl rfl ?_
     exact ⟨(.free rfl), (.free rfl), (.free rfl), (.free rfl), (.ptr rfl), (.free rfl), trivial⟩
    ·replace h := cond_f h b2
     refine m1 ?_
     refine m1 ?_
     refine s_lenL rfl sl22 rfl rfl rfl rfl ?_
     refine m1 ?_
     refine grd_elim h fun g3 h => ?_
     refine s_subI rfl rfl rfl rfl g3 rfl rfl rfl ?_
     refine s_of (st_gtr rfl rfl rfl) rfl rfl rfl rfl ?_
     refine s_pickF rfl rfl (by conv => lhs; whnf) rfl rfl rfl ?_
     refine m2 ?_
     refine rt_nil ?_
     refine Exists.intro ⟨decide ((p0.length : Int) - p2 < p1), h⟩ ?_
     refine entX [((8, 0), ⟨62, 6, [[.sc (.string (⟨#[]⟩ : ByteArray)), .sc (.int .i64 0), .sc (.int .i64 0), .sc (.int .i64 0), .sc (.string (⟨#[]⟩ : ByteArray)), .sc (.string (⟨#[]⟩ : ByteArray))]], false, true⟩, some (8, 0))] [] ⟨⟨rfl, _, rfl, rfl, rfl, rfl, id, rowsCv_one (.cons (.free rfl) (.cons (.free rfl) (.cons (.free rfl) (.cons (.free rfl) (.cons (.free rfl) (.cons (.free rfl) .nil)))))), rowsZ_one rfl⟩, trivial⟩ trivial rfl rfl ?_
     exact ⟨(.free rfl), (.free rfl), (.free rfl), (.free rfl), (.ptr rfl), (.free rfl), trivial⟩
   ·rintro ⟨j1_0, h⟩
    replace h : i_GetData_j1 p0 p1 p2 p3 j1_0 = some (r0, r1) := h
    unfold i_GetData_j1 at h
    show Tri _ _ _ (inv_i_GetData_1 p0 p1 p2 p3 j1_0)
    refine tri_cond rfl (fun c2 => ?_) (fun c2 => ?_)
    ·replace h := cond_t h c2
     refine tri_sr ?_
     refine s_build (cells' := [.sc (.string (⟨#[]⟩ : ByteArray)), .sc (.int .i64 0), .sc (.int .i64 0), .sc (.int .i64 0), .sc (.string (⟨#[]⟩ : ByteArray)), .sc (.string (⟨#[]⟩ : ByteArray))]) rfl stc62 rfl rfl rfl rfl rfl rfl rfl ?_
     refine s_storeB rfl rfl rfl ty62 rfl rfl rfl rfl rfl ?_
     refine s_mv (.inr rfl) (v := .sc (.int .i64 1)) rfl rfl rfl rfl ?_
     refine rt_nil ?_
     refine tri_ret ?_
     have e0 := (some2 h).1; have e1 := (some2 h).2; subst e0; subst e1
     exact endY [] [] (rvC (resCell rfl rfl ty62) (rvC (resTmp rfl) rvN)) trivial trivial rfl rfl rfl rfl (CvL.tup (.cons (cvAgg rfl) (.cons (.free rfl) .nil)))
    ·replace h := cond_f h c2
     refine tri_sr ?_
     refine m1 ?_
     refine bnd1_elim h fun x3 q4 h => ?_
     refine s_callN (kb := []) (ns := []) (v := .sc (.bool x3)) rfl rfl cl35 (wi_TypeOk p3 x3 q4) rfl (.cons (.free rfl) .nil) trivial memNil .nil memNil rfl trivial memNil rfl rfl rfl rfl rfl rfl ?_
     refine s_of (st_not rfl rfl) rfl rfl rfl rfl ?_
     refine m2 ?_
     refine rt_nil ?_
     refine tri_cond rfl (fun c5 => ?_) (fun c5 => ?_)
     ·replace h := cond_t h c5
      refine tri_sr ?_
      refine s_build (cells' := [.sc (.string (⟨#[]⟩ : ByteArray)), .sc (.int .i64 0), .sc (.int .i64 0), .sc (.int .i64 0), .sc (.string (⟨#[]⟩ : ByteArray)), .sc (.string (⟨#[]⟩ : ByteArray))]) rfl stc62 rfl rfl rfl rfl rfl rfl rfl ?_
      refine s_storeB rfl rfl rfl ty62 rfl rfl rfl rfl rfl ?_
      refine s_mv (.inr rfl) (v := .sc (.int .i64 2)) rfl rfl rfl rfl ?_
      refine rt_nil ?_
      refine tri_ret ?_
      have e0 := (some2 h).1; have e1 := (some2 h).2; subst e0; subst e1
      exact endY [] [] (rvC (resCell rfl rfl ty62) (rvC (resTmp rfl) rvN)) trivial trivial rfl rfl rfl rfl (CvL.tup (.cons (cvAgg rfl) (.cons (.free rfl) .nil)))
     ·replace h := cond_f h c5
      refine tri_skip ?_
      refine tri_sr ?_
      refine m1 ?_
      refine s_build (cells' := [.sc (.string (⟨#[]⟩ : ByteArray)), .sc (.int .i64 p3), .sc (.int .i64 0), .sc (.int .i64 0), .sc (.string (⟨#[]⟩ : ByteArray)), .sc (.string (⟨#[]⟩ : ByteArray))]) rfl stc62 rfl rfl rfl rfl rfl rfl rfl ?_
      refine s_alloc rfl rfl rfl zc62 rfl rfl rfl rfl rfl ?_
      refine s_storeB rfl rfl rfl ty62 rfl rfl rfl rfl rfl ?_
      refine rt_nil ?_
      refine tri_sr ?_
      refine m1 ?_
      refine m2 ?_
      refine rt_nil ?_
      refine tri_sr ?_
      refine s_mv (.inr rfl) (v := .sc (.bool true)) rfl rfl rfl rfl ?_
      refine rt_nil ?_
      refine tri_cutI (ι := { p : Int × ByteArray × ByteArray × Int × Bool // i_GetData_j2 p1 p2 p3 p.1 p.2.1 p.2.2.1 p.2.2.2.1 p.2.2.2.2 = some (r0, r1) }) (fun p => inv_i_GetData_2 p1 p2 p3 p.1.1 p.1.2.1 p.1.2.2.1 p.1.2.2.2.1 p.1.2.2.2.2) ?_ ?_
      ·skip
       refine tri_sr ?_
       refine m1 ?_
       refine rt_nil ?_
       refine tri_block ?_
       refine tri_sr ?_
       refine s_of (st_eqI rfl rfl rfl) rfl rfl rfl rfl ?_
       refine m2 ?_
       refine rt_nil ?_
       refine tri_cond rfl (fun c6 => ?_) (fun c6 => ?_)
       ·replace h := cond_t h c6
        refine tri_sr ?_
        refine m1 ?_
        refine m1 ?_
        refine bnd2_elim h fun x7 x8 q9 h => ?_
        refine s_callN (kb := []) (ns := []) (v := .tup [.sc (.int .i64 x7), .sc (.bool x8)]) rfl rfl cl54 (wi_Get4 p0 p1 x7 x8 q9) rfl (.cons (.free rfl) (.cons (.free rfl) .nil)) trivial memNil .nil memNil rfl trivial memNil rfl rfl rfl rfl rfl rfl ?_
        refine m1 ?_
        refine s_extract rfl rfl rfl rfl rfl rfl ?_
        refine s_extract rfl rfl rfl rfl rfl rfl ?_
        refine s_fieldAddr rfl rfl fd62_3 rfl rfl rfl rfl ?_
        refine s_store (rows' := [[.sc (.string (⟨#[]⟩ : ByteArray)), .sc (.int .i64 p3), .sc (.int .i64 0), .sc (.int .i64 x7), .sc (.string (⟨#[]⟩ : ByteArray)), .sc (.string (⟨#[]⟩ : ByteArray))]]) rfl rfl rfl rfl ty3 rfl rfl rfl rfl rfl rfl ?_
        refine m2 ?_
        refine rt_nil ?_
        refine tri_region ?_
        refine m1 ?_
        refine grd_elim h fun g10 h => ?_
        refine s_addI rfl rfl rfl rfl g10 rfl rfl rfl ?_
        refine m2 ?_
        refine rt_nil ?_
        refine Exists.intro ⟨(x7, (⟨#[]⟩ : ByteArray), (⟨#[]⟩ : ByteArray), p1 + 4, x8), h⟩ ?_
        refine entX [((8, 0), ⟨62, 6, [[.sc (.string (⟨#[]⟩ : ByteArray)), .sc (.int .i64 0), .sc (.int .i64 0), .sc (.int .i64 0), .sc (.string (⟨#[]⟩ : ByteArray)), .sc (.string (⟨#[]⟩ : ByteArray))]], false, true⟩, some (8, 0)), ((10, 0), ⟨62, 6, [[.sc (.string (⟨#[]⟩ : ByteArray)), .sc (.int .i64 p3), .sc (.int .i64 0), .sc (.int .i64 x7), .sc (.string (⟨#[]⟩ : ByteArray)), .sc (.string (⟨#[]⟩ : ByteArray))]], false, true⟩, some (10, 0))] [] ⟨⟨rfl, _, rfl, rfl, rfl, rfl, id, rowsCv_one (.cons (.free rfl) (.cons (.free rfl) (.cons (.free rfl) (.cons (.free rfl) (.cons (.free rfl) (.cons (.free rfl) .nil)))))), rowsZ_one rfl⟩, ⟨rfl, _, rfl, rfl, rfl, rfl, id, rowsCv_one (.cons (.free rfl) (.cons (.free rfl) (.cons (.free rfl) (.cons (.free rfl) (.cons (.free rfl) (.cons (.free rfl) .nil)))))), rowsZ_one rfl⟩, trivial⟩ trivial rfl rfl ?_
        exact ⟨(.free rfl), (.free rfl), (.ptr rfl), (.ptr rfl), (.free rfl), (.free rfl), trivial⟩
       ·replace h := cond_f h c6
        refine tri_sr ?_
        refine s_of (st_eqI rfl rfl rfl) rfl rfl rfl rfl ?_
        refine m2 ?_
        refine rt_nil ?_
        refine tri_cond rfl (fun c11 => ?_) (fun c11 => ?_)
        ·replace h := cond_t h c11
         refine tri_seq ?_
         refine tri_sr ?_
         refine m1 ?_
         refine s_of (st_eqI rfl rfl rfl) rfl rfl rfl rfl ?_
         refine rt_nil ?_
         refine tri_cond rfl (fun c12 => ?_) (fun c12 => ?_)
         ·replace h := cond_t h c12
          refine tri_sr ?_
          refine s_build (cells' := [.sc (.string (⟨#[]⟩ : ByteArray)), .sc (.int .i64 0), .sc (.int .i64 0), .sc (.int .i64 0), .sc (.string (⟨#[]⟩ : ByteArray)), .sc (.string (⟨#[]⟩ : ByteArray))]) rfl stc62 rfl rfl rfl rfl rfl rfl rfl ?_
          refine s_storeB rfl rfl rfl ty62 rfl rfl rfl rfl rfl ?_
          refine s_mv (.inr rfl) (v := .sc (.int .i64 2)) rfl rfl rfl rfl ?_
          refine rt_nil ?_
          refine tri_ret ?_
          have e0 := (some2 h).1; have e1 := (some2 h).2; subst e0; subst e1
          exact endY [] [] (rvC (resCell rfl rfl ty62) (rvC (resTmp rfl) rvN)) trivial trivial rfl rfl rfl rfl (CvL.tup (.cons (cvAgg rfl) (.cons (.free rfl) .nil)))
         ·replace h := cond_f h c12
          refine tri_skip ?_
          refine tri_sr ?_
          refine m1 ?_
          refine m1 ?_
          refine m1 ?_
          refine bnd1_elim h fun x13 q14 h => ?_
          have q14a := (idx_some q14).1; have q14b := (idx_some q14).2
          refine s_indexFZ rfl rfl rfl sl22 q14a (get_ltM q14b) rfl rfl rfl ?_
          refine s_loadF rfl rfl (rowG q14b) ty5 rfl (.inr rfl) (by conv => lhs; whnf) rfl rfl rfl ?_
          refine s_of (st_conv ik5 ik3 rfl rfl) rfl rfl rfl rfl ?_
          refine grd_elim h fun g15 h => ?_
          refine s_addI rfl rfl rfl rfl g15 rfl rfl rfl ?_
          refine grd_elim h fun g16 h => ?_
          refine s_addI rfl rfl rfl rfl g16 rfl rfl rfl ?_
          refine m2 ?_
          refine rt_nil ?_
          refine tri_sr ?_
          refine m1 ?_
          refine m1 ?_
          refine m1 ?_
          refine grd_elim h fun g17 h => ?_
          refine s_addI rfl rfl rfl rfl g17 rfl rfl rfl ?_
          refine s_of (st_eqI rfl rfl rfl) rfl rfl rfl rfl ?_
          refine rt_nil ?_
          refine tri_cond rfl (fun c18 => ?_) (fun c18 => ?_)
          ·replace h := cond_t h c18
           refine tri_sr ?_
           refine m1 ?_
           refine m1 ?_
           refine grd_elim h fun g19 h => ?_
           refine s_addI rfl rfl rfl rfl g19 rfl rfl rfl ?_
           refine m1 ?_
           refine grd_elim h fun g20 h => ?_
           refine s_sliceFZ (a := p1 + 1) (b := p1 + (1 + (IntKind.i64.wrap x13))) rfl rfl sl22 ⟨_, rfl⟩ ⟨_, rfl⟩ g20 rfl rfl rfl ?_
           refine s_toString rfl src_lst byt22 iss9 rfl rfl rfl rfl ?_
           refine s_fieldAddr rfl rfl fd62_5 rfl rfl rfl rfl ?_
           refine s_store (rows' := [[.sc (.string (⟨#[]⟩ : ByteArray)), .sc (.int .i64 p3), .sc (.int .i64 0), .sc (.int .i64 0), .sc (.string (⟨#[]⟩ : ByteArray)), .sc (.string (strOfNums ((p0.drop (p1 + 1).toNat).take ((p1 + (1 + (IntKind.i64.wrap x13))).toNat - (p1 + 1).toNat))))]]) rfl rfl rfl rfl ty9 rfl rfl rfl rfl rfl rfl ?_
           refine rt_nil ?_
           refine tri_region ?_
           refine s_fieldAddr rfl rfl fd62_5 rfl rfl rfl rfl ?_
           refine s_load rfl rfl rfl rfl ty9 rfl (.inr rfl) (by conv => lhs; whnf) rfl rfl rfl ?_
           refine bnd1_elim h fun x21 q22 h => ?_
           refine s_callN (kb := []) (ns := []) (v := .sc (.bool x21)) rfl rfl cl64 (wi_isText (strOfNums ((p0.drop (p1 + 1).toNat).take ((p1 + (1 + (IntKind.i64.wrap x13))).toNat - (p1 + 1).toNat))) x21 q22) rfl (.cons (.free rfl) .nil) trivial memNil .nil memNil rfl trivial memNil rfl rfl rfl rfl rfl rfl ?_
           refine m2 ?_
           refine rt_nil ?_
           refine Exists.intro ⟨(0, (⟨#[]⟩ : ByteArray), strOfNums ((p0.drop (p1 + 1).toNat).take ((p1 + (1 + (IntKind.i64.wrap x13))).toNat - (p1 + 1).toNat)), p1 + (1 + (IntKind.i64.wrap x13)), x21), h⟩ ?_
           refine entX [((8, 0), ⟨62, 6, [[.sc (.string (⟨#[]⟩ : ByteArray)), .sc (.int .i64 0), .sc (.int .i64 0), .sc (.int .i64 0), .sc (.string (⟨#[]⟩ : ByteArray)), .sc (.string (⟨#[]⟩ : ByteArray))]], false, true⟩, some (8, 0)), ((10, 0), ⟨62, 6, [[.sc (.string (⟨#[]⟩ : ByteArray)), .sc (.int .i64 p3), .sc (.int .i64 0), .sc (.int .i64 0), .sc (.string (⟨#[]⟩ : ByteArray)), .sc (.string (strOfNums ((p0.drop (p1 + 1).toNat).take ((p1 + (1 + (IntKind.i64.wrap x13))).toNat - (p1 + 1).toNat))))]], false, true⟩, some (10, 0))] [] ⟨⟨rfl, _, rfl, rfl, rfl, rfl, id, rowsCv_one (.cons (.free rfl) (.cons (.free rfl) (.cons (.free rfl) (.cons (.free rfl) (.cons (.free rfl) (.cons (.free rfl) .nil)))))), rowsZ_one rfl⟩, ⟨rfl, _, rfl, rfl, rfl, rfl, id, rowsCv_one (.cons (.free rfl) (.cons (.free rfl) (.cons (.free rfl) (.cons (.free rfl) (.cons (.free rfl) (.cons (.free rfl) .nil)))))), rowsZ_one rfl⟩, trivial⟩ trivial rfl rfl ?_
           exact ⟨(.free rfl), (.free rfl), (.ptr rfl), (.ptr rfl), (.free rfl), (.free rfl), trivial⟩
          ·replace h := cond_f h c18
           refine tri_skip ?_
           refine Exists.intro ⟨(0, (⟨#[]⟩ : ByteArray), (⟨#[]⟩ : ByteArray), p1 + (1 + (IntKind.i64.wrap x13)), true), h⟩ ?_
           refine entX [((8, 0), ⟨62, 6, [[.sc (.string (⟨#[]⟩ : ByteArray)), .sc (.int .i64 0), .sc (.int .i64 0), .sc (.int .i64 0), .sc (.string (⟨#[]⟩ : ByteArray)), .sc (.string (⟨#[]⟩ : ByteArray))]], false, true⟩, some (8, 0)), ((10, 0), ⟨62, 6, [[.sc (.string (⟨#[]⟩ : ByteArray)), .sc (.int .i64 p3), .sc (.int .i64 0), .sc (.int .i64 0), .sc (.string (⟨#[]⟩ : ByteArray)), .sc (.string (⟨#[]⟩ : ByteArray))]], false, true⟩, some (10, 0))] [] ⟨⟨rfl, _, rfl, rfl, rfl, rfl, id, rowsCv_one (.cons (.free rfl) (.cons (.free rfl) (.cons (.free rfl) (.cons (.free rfl) (.cons (.free rfl) (.cons (.free rfl) .nil)))))), rowsZ_one rfl⟩, ⟨rfl, _, rfl, rfl, rfl, rfl, id, rowsCv_one (.cons (.free rfl) (.cons (.free rfl) (.cons (.free rfl) (.cons (.free rfl) (.cons (.free rfl) (.cons (.free rfl) .nil)))))), rowsZ_one rfl⟩, trivial⟩ trivial rfl rfl ?_
           exact ⟨(.free rfl), (.free rfl), (.ptr rfl), (.ptr rfl), (.free rfl), (.free rfl), trivial⟩
        ·replace h := cond_f h c11
         refine tri_sr ?_
         refine m1 ?_
         refine m1 ?_
         refine bnd3_elim h fun x23 x24 x25 q26 h => ?_
         refine s_callN (kb := []) (ns := []) (v := .tup [.sc (.string x23), .sc (.int .i64 x24), .sc (.int .i64 x25)]) rfl rfl cl19 (wi_GetName p0 p1 x23 x24 x25 q26) rfl (.cons (.free rfl) (.cons (.free rfl) .nil)) trivial memNil .nil memNil rfl trivial memNil rfl rfl rfl rfl rfl rfl ?_
         refine m1 ?_
         refine s_extract rfl rfl rfl rfl rfl rfl ?_
         refine s_extract rfl rfl rfl rfl rfl rfl ?_
         refine s_extract rfl rfl rfl rfl rfl rfl ?_
         refine m2 ?_
         refine m2 ?_
         refine m2 ?_
         refine rt_nil ?_
         refine tri_seq ?_
         refine tri_sr ?_
         refine m1 ?_
         refine s_of (st_neI rfl rfl rfl) rfl rfl rfl rfl ?_
         refine rt_nil ?_
         refine tri_cond rfl (fun c27 => ?_) (fun c27 => ?_)
         ·replace h := cond_t h c27
          refine tri_sr ?_
          refine s_build (cells' := [.sc (.string (⟨#[]⟩ : ByteArray)), .sc (.int .i64 0), .sc (.int .i64 0), .sc (.int .i64 0), .sc (.string (⟨#[]⟩ : ByteArray)), .sc (.string (⟨#[]⟩ : ByteArray))]) rfl stc62 rfl rfl rfl rfl rfl rfl rfl ?_
          refine m1 ?_
          refine s_storeB rfl rfl rfl ty62 rfl rfl rfl rfl rfl ?_
          refine m2 ?_
          refine rt_nil ?_
          refine tri_ret ?_
          have e0 := (some2 h).1; have e1 := (some2 h).2; subst e0; subst e1
          exact endY [] [] (rvC (resCell rfl rfl ty62) (rvC (resTmp rfl) rvN)) trivial trivial rfl rfl rfl rfl (CvL.tup (.cons (cvAgg rfl) (.cons (.free rfl) .nil)))
         ·replace h := cond_f h c27
          refine tri_skip ?_
          refine tri_sr ?_
          refine m1 ?_
          refine s_fieldAddr rfl rfl fd62_4 rfl rfl rfl rfl ?_
          refine s_store (rows' := [[.sc (.string (⟨#[]⟩ : ByteArray)), .sc (.int .i64 p3), .sc (.int .i64 0), .sc (.int .i64 0), .sc (.string x23), .sc (.string (⟨#[]⟩ : ByteArray))]]) rfl rfl rfl rfl ty9 rfl rfl rfl rfl rfl rfl ?_
          refine rt_nil ?_
          refine tri_sr ?_
          refine m1 ?_
          refine m2 ?_
          refine rt_nil ?_
          refine tri_sr ?_
          refine m1 ?_
          refine s_of (st_eqI rfl rfl rfl) rfl rfl rfl rfl ?_
          refine rt_nil ?_
          refine tri_cond rfl (fun c28 => ?_) (fun c28 => ?_)
          ·replace h := cond_t h c28
           refine tri_sr ?_
           refine m1 ?_
           refine m1 ?_
           refine bnd2_elim h fun x29 x30 q31 h => ?_
           refine s_callN (kb := []) (ns := []) (v := .tup [.sc (.int .i64 x29), .sc (.bool x30)]) rfl rfl cl54 (wi_Get4 p0 x24 x29 x30 q31) rfl (.cons (.free rfl) (.cons (.free rfl) .nil)) trivial memNil .nil memNil rfl trivial memNil rfl rfl rfl rfl rfl rfl ?_
           refine m1 ?_
           refine s_extract rfl rfl rfl rfl rfl rfl ?_
           refine s_extract rfl rfl rfl rfl rfl rfl ?_
           refine s_fieldAddr rfl rfl fd62_3 rfl rfl rfl rfl ?_
           refine s_store (rows' := [[.sc (.string (⟨#[]⟩ : ByteArray)), .sc (.int .i64 p3), .sc (.int .i64 0), .sc (.int .i64 x29), .sc (.string x23), .sc (.string (⟨#[]⟩ : ByteArray))]]) rfl rfl rfl rfl ty3 rfl rfl rfl rfl rfl rfl ?_
           refine m2 ?_
           refine rt_nil ?_
           refine tri_region ?_
           refine m1 ?_
           refine grd_elim h fun g32 h => ?_
           refine s_addI rfl rfl rfl rfl g32 rfl rfl rfl ?_
           refine m2 ?_
           refine rt_nil ?_
           refine Exists.intro ⟨(x29, x23, (⟨#[]⟩ : ByteArray), x24 + 4, x30), h⟩ ?_
           refine entX [((8, 0), ⟨62, 6, [[.sc (.string (⟨#[]⟩ : ByteArray)), .sc (.int .i64 0), .sc (.int .i64 0), .sc (.int .i64 0), .sc (.string (⟨#[]⟩ : ByteArray)), .sc (.string (⟨#[]⟩ : ByteArray))]], false, true⟩, some (8, 0)), ((10, 0), ⟨62, 6, [[.sc (.string (⟨#[]⟩ : ByteArray)), .sc (.int .i64 p3), .sc (.int .i64 0), .sc (.int .i64 x29), .sc (.string x23), .sc (.string (⟨#[]⟩ : ByteArray))]], false, true⟩, some (10, 0))] [] ⟨⟨rfl, _, rfl, rfl, rfl, rfl, id, rowsCv_one (.cons (.free rfl) (.cons (.free rfl) (.cons (.free rfl) (.cons (.free rfl) (.cons (.free rfl) (.cons (.free rfl) .nil)))))), rowsZ_one rfl⟩, ⟨rfl, _, rfl, rfl, rfl, rfl, id, rowsCv_one (.cons (.free rfl) (.cons (.free rfl) (.cons (.free rfl) (.cons (.free rfl) (.cons (.free rfl) (.cons (.free rfl) .nil)))))), rowsZ_one rfl⟩, trivial⟩ trivial rfl rfl ?_
           exact ⟨(.free rfl), (.free rfl), (.ptr rfl), (.ptr rfl), (.free rfl), (.free rfl), trivial⟩
          ·replace h := cond_f h c28
           refine tri_skip ?_
           refine Exists.intro ⟨(0, x23, (⟨#[]⟩ : ByteArray), x24, true), h⟩ ?_
           refine entX [((8, 0), ⟨62, 6, [[.sc (.string (⟨#[]⟩ : ByteArray)), .sc (.int .i64 0), .sc (.int .i64 0), .sc (.int .i64 0), .sc (.string (⟨#[]⟩ : ByteArray)), .sc (.string (⟨#[]⟩ : ByteArray))]], false, true⟩, some (8, 0)), ((10, 0), ⟨62, 6, [[.sc (.string (⟨#[]⟩ : ByteArray)), .sc (.int .i64 p3), .sc (.int .i64 0), .sc (.int .i64 0), .sc (.string x23), .sc (.string (⟨#[]⟩ : ByteArray))]], false, true⟩, some (10, 0))] [] ⟨⟨rfl, _, rfl, rfl, rfl, rfl, id, rowsCv_one (.cons (.free rfl) (.cons (.free rfl) (.cons (.free rfl) (.cons (.free rfl) (.cons (.free rfl) (.cons (.free rfl) .nil)))))), rowsZ_one rfl⟩, ⟨rfl, _, rfl, rfl, rfl, rfl, id, rowsCv_one (.cons (.free rfl) (.cons (.free rfl) (.cons (.free rfl) (.cons (.free rfl) (.cons (.free rfl) (.cons (.free rfl) .nil)))))), rowsZ_one rfl⟩, trivial⟩ trivial rfl rfl ?_
           exact ⟨(.free rfl), (.free rfl), (.ptr rfl), (.ptr rfl), (.free rfl), (.free rfl), trivial⟩
      ·rintro ⟨⟨j2_0, j2_1, j2_2, j2_3, j2_4⟩, h⟩
       replace h : i_GetData_j2 p1 p2 p3 j2_0 j2_1 j2_2 j2_3 j2_4 = some (r0, r1) := h
       unfold i_GetData_j2 at h
       show Tri _ _ _ (inv_i_GetData_2 p1 p2 p3 j2_0 j2_1 j2_2 j2_3 j2_4)
       refine tri_seq ?_
       refine tri_cutI (ι := { p : Bool // i_GetData_j3 p3 j2_0 j2_1 j2_2 p = some (r0, r1) }) (fun p => inv_i_GetData_3 p3 j2_0 j2_1 j2_2 p.1) ?_ ?_
       ·skip
        refine tri_region ?_
        refine m1 ?_
        refine s_of (st_not rfl rfl) rfl rfl rfl rfl ?_
        refine m1 ?_
        refine s_split (t := 111) rfl (fun b6 => ?_) (fun b6 => ?_)
        ·replace h := cond_t h b6
         refine s_skip rfl rfl rfl ?_
         refine s_skip rfl rfl rfl ?_
         refine s_skip rfl rfl rfl ?_
         refine s_skip rfl rfl rfl ?_
         refine s_skip rfl rfl rfl ?_
         refine s_pickT rfl rfl (v := .sc (.bool true)) rfl rfl rfl rfl ?_
         refine rt_nil ?_
         refine Exists.intro ⟨true, h⟩ ?_
         refine entX [((8, 0), ⟨62, 6, [[.sc (.string (⟨#[]⟩ : ByteArray)), .sc (.int .i64 0), .sc (.int .i64 0), .sc (.int .i64 0), .sc (.string (⟨#[]⟩ : ByteArray)), .sc (.string (⟨#[]⟩ : ByteArray))]], false, true⟩, some (8, 0)), ((10, 0), ⟨62, 6, [[.sc (.string (⟨#[]⟩ : ByteArray)), .sc (.int .i64 p3), .sc (.int .i64 0), .sc (.int .i64 j2_0), .sc (.string j2_1), .sc (.string j2_2)]], false, true⟩, some (10, 0))] [] ⟨⟨rfl, _, rfl, rfl, rfl, rfl, id, rowsCv_one (.cons (.free rfl) (.cons (.free rfl) (.cons (.free rfl) (.cons (.free rfl) (.cons (.free rfl) (.cons (.free rfl) .nil)))))), rowsZ_one rfl⟩, ⟨rfl, _, rfl, rfl, rfl, rfl, id, rowsCv_one (.cons (.free rfl) (.cons (.free rfl) (.cons (.free rfl) (.cons (.free rfl) (.cons (.free rfl) (.cons (.free rfl) .nil)))))), rowsZ_one rfl⟩, trivial⟩ trivial rfl rfl ?_
         exact ⟨(.ptr rfl), (.ptr rfl), (.free rfl), trivial⟩
        ·replace h := cond_f h b6
         refine m1 ?_
         refine m1 ?_
         refine m1 ?_
         refine grd_elim h fun g7 h => ?_
         refine s_addI rfl rfl rfl rfl g7 rfl rfl rfl ?_
         refine s_of (st_neI rfl rfl rfl) rfl rfl rfl rfl ?_
         refine s_pickF rfl rfl (by conv => lhs; whnf) rfl rfl rfl ?_
         refine rt_nil ?_
         refine Exists.intro ⟨!decide (j2_3 = p1 + p2), h⟩ ?_
         refine entX [((8, 0), ⟨62, 6, [[.sc (.string (⟨#[]⟩ : ByteArray)), .sc (.int .i64 0), .sc (.int .i64 0), .sc (.int .i64 0), .sc (.string (⟨#[]⟩ : ByteArray)), .sc (.string (⟨#[]⟩ : ByteArray))]], false, true⟩, some (8, 0)), ((10, 0), ⟨62, 6, [[.sc (.string (⟨#[]⟩ : ByteArray)), .sc (.int .i64 p3), .sc (.int .i64 0), .sc (.int .i64 j2_0), .sc (.string j2_1), .sc (.string j2_2)]], false, true⟩, some (10, 0))] [] ⟨⟨rfl, _, rfl, rfl, rfl, rfl, id, rowsCv_one (.cons (.free rfl) (.cons (.free rfl) (.cons (.free rfl) (.cons (.free rfl) (.cons (.free rfl) (.cons (.free rfl) .nil)))))), rowsZ_one rfl⟩, ⟨rfl, _, rfl, rfl, rfl, rfl, id, rowsCv_one (.cons (.free rfl) (.cons (.free rfl) (.cons (.free rfl) (.cons (.free rfl) (.cons (.free rfl) (.cons (.free rfl) .nil)))))), rowsZ_one rfl⟩, trivial⟩ trivial rfl rfl ?_
         exact ⟨(.ptr rfl), (.ptr rfl), (.free rfl), trivial⟩
       ·rintro ⟨j3_0, h⟩
        replace h : i_GetData_j3 p3 j2_0 j2_1 j2_2 j3_0 = some (r0, r1) := h
        unfold i_GetData_j3 at h
        show Tri _ _ _ (inv_i_GetData_3 p3 j2_0 j2_1 j2_2 j3_0)
        refine tri_cond rfl (fun c6 => ?_) (fun c6 => ?_)
        ·replace h := cond_t h c6
         refine tri_sr ?_
         refine s_build (cells' := [.sc (.string (⟨#[]⟩ : ByteArray)), .sc (.int .i64 0), .sc (.int .i64 0), .sc (.int .i64 0), .sc (.string (⟨#[]⟩ : ByteArray)), .sc (.string (⟨#[]⟩ : ByteArray))]) rfl stc62 rfl rfl rfl rfl rfl rfl rfl ?_
         refine s_storeB rfl rfl rfl ty62 rfl rfl rfl rfl rfl ?_
         refine s_mv (.inr rfl) (v := .sc (.int .i64 2)) rfl rfl rfl rfl ?_
         refine rt_nil ?_
         refine tri_ret ?_
         have e0 := (some2 h).1; have e1 := (some2 h).2; subst e0; subst e1
         exact endY [] [] (rvC (resCell rfl rfl ty62) (rvC (resTmp rfl) rvN)) trivial trivial rfl rfl rfl rfl (CvL.tup (.cons (cvAgg rfl) (.cons (.free rfl) .nil)))
        ·replace h := cond_f h c6
         refine tri_skip ?_
         refine tri_sr ?_
         refine s_loadR rfl rfl rfl rfl ty62 rfl rfl rfl ?_
         refine s_storeB rfl rfl rfl ty62 rfl rfl rfl rfl rfl ?_
         refine s_mv (.inr rfl) (v := .sc (.int .i64 0)) rfl rfl rfl rfl ?_
         refine rt_nil ?_
         refine tri_ret ?_
         have e0 := (some2 h).1; have e1 := (some2 h).2; subst e0; subst e1
         exact endY [] [] (rvC (resCell rfl rfl ty62) (rvC (resTmp rfl) rvN)) trivial trivial rfl rfl rfl rfl (CvL.tup (.cons (cvAgg rfl) (.cons (.free rfl) .nil)))

/- impl.isTtl -/

set_option maxRecDepth 4000 in
set_option maxHeartbeats 800000 in
theorem wi_isTtl (p0 : Int) (r0 : Bool) (h : i_isTtl p0 = some r0) : Runs Tryd.prog 65 [.sc (.int .i64 p0)] [] (.sc (.bool r0)) [] := by
 unfold i_isTtl at h
 refine runsR [.tmp 2] Tryd.func65 rfl rfl rfl rfl ?_
 rw [Tryd.ntmps65]
 refine tri_sr ?_
 refine s_mv (.inr rfl) (v := .sc (.bool false)) rfl rfl rfl rfl ?_
 refine rt_nil ?_
 refine tri_sr ?_
 refine m1 ?_
 refine s_of (st_geq rfl rfl rfl) rfl rfl rfl rfl ?_
 refine m1 ?_
 refine s_split (t := 5) rfl (fun b1 => ?_) (fun b1 => ?_)
 ·replace h := cond_t h b1
  refine m1 ?_
  refine s_of (st_leq rfl rfl rfl) rfl rfl rfl rfl ?_
  refine s_pickT rfl rfl (by conv => lhs; whnf) rfl rfl rfl ?_
  refine m2 ?_
  refine rt_nil ?_
  refine tri_ret ?_
  have e0 := (some1 h); subst e0
  exact endY [] [] (rvC (resTmp rfl) rvN) trivial trivial rfl rfl rfl rfl (.free rfl)
 ·replace h := cond_f h b1
  refine s_skip rfl rfl rfl ?_
  refine s_skip rfl rfl rfl ?_
  refine s_pickF rfl rfl (v := .sc (.bool false)) rfl rfl rfl rfl ?_
  refine m2 ?_
  refine rt_nil ?_
  refine tri_ret ?_
  have e0 := (some1 h); subst e0
  exact endY [] [] (rvC (resTmp rfl) rvN) trivial trivial rfl rfl rfl rfl (.free rfl)

/- impl.isFour -/

set_option maxRecDepth 4000 in
set_option maxHeartbeats 800000 in
theorem wi_isFour (p0 : Int) (r0 : Bool) (h : i_isFour p0 = some r0) : Runs Tryd.prog 66 [.sc (.int .i64 p0)] [] (.sc (.bool r0)) [] := by
 unfold i_isFour at h
 refine runsR [.tmp 2] Tryd.func66 rfl rfl rfl rfl ?_
 rw [Tryd.ntmps66]
 refine tri_sr ?_
 refine s_mv (.inr rfl) (v := .sc (.bool false)) rfl rfl rfl rfl ?_
 refine rt_nil ?_
 refine tri_sr ?_
 refine m1 ?_
 refine s_of (st_geq rfl rfl rfl) rfl rfl rfl rfl ?_
 refine m1 ?_
 refine s_split (t := 5) rfl (fun b1 => ?_) (fun b1 => ?_)
 ·replace h := cond_t h b1
  refine m1 ?_
  refine s_of (st_leq rfl rfl rfl) rfl rfl rfl rfl ?_
  refine s_pickT rfl rfl (by conv => lhs; whnf) rfl rfl rfl ?_
  refine m2 ?_
  refine rt_nil ?_
  refine tri_ret ?_
  have e0 := (some1 h); subst e0
  exact endY [] [] (rvC (resTmp rfl) rvN) trivial trivial rfl rfl rfl rfl (.free rfl)
 ·replace h := cond_f h b1
  refine s_skip rfl rfl rfl ?_
  refine s_skip rfl rfl rfl ?_
  refine s_pickF rfl rfl (v := .sc (.bool false)) rfl rfl rfl rfl ?_
  refine m2 ?_
  refine rt_nil ?_
  refine tri_ret ?_
  have e0 := (some1 h); subst e0
  exact endY [] [] (rvC (resTmp rfl) rvN) trivial trivial rfl rfl rfl rfl (.free rfl)

/- impl.RecordOk -/
def inv_i_RecordOk_1 (p0 : Rec) (j1_0 : Bool) : St := mkT 76 [(1, .ptr (1, 0) 0 0), (14, .sc (.int .i64 p0.ty)), (30, .sc (.bool j1_0))] [((1, 0), some ⟨62, 6, [[.sc (.string p0.name), .sc (.int .i64 p0.ty), .sc (.int .i64 p0.ttl), .sc (.int .i64 p0.n), .sc (.string p0.host), .sc (.string p0.text)]], false, true⟩)]
def inv_i_RecordOk_0 (p0 : Rec) (j0_0 : Bool) : St := mkT 76 [(1, .ptr (1, 0) 0 0), (12, .sc (.bool j0_0))] [((1, 0), some ⟨62, 6, [[.sc (.string p0.name), .sc (.int .i64 p0.ty), .sc (.int .i64 p0.ttl), .sc (.int .i64 p0.n), .sc (.string p0.host), .sc (.string p0.text)]], false, true⟩)]
set_option maxRecDepth 4000 in
set_option maxHeartbeats 800000 in
theorem wi_RecordOk (p0 : Rec) (r0 : Bool) (h : i_RecordOk p0 = some r0) : Runs Tryd.prog 56 [.agg (recV p0)] [] (.sc (.bool r0)) [] := by
 unfold i_RecordOk at h
 refine runsR [.tmp 2] Tryd.func56 rfl rfl rfl rfl ?_
 rw [Tryd.ntmps56]
 refine tri_sr ?_
 refine s_box rfl rfl rfl rfl rfl rfl rfl ?_
 refine s_mv (.inr rfl) (v := .sc (.bool false)) rfl rfl rfl rfl ?_
 refine rt_nil ?_
 refine tri_seq ?_
 refine tri_cutI (ι := { p : Bool // i_RecordOk_j0 p0 p = some r0 }) (fun p => inv_i_RecordOk_0 p0 p.1) ?_ ?_
 ·skip
  refine tri_region ?_
  refine s_fieldAddr rfl rfl fd62_0 rfl rfl rfl rfl ?_
  refine s_load rfl rfl rfl rfl ty9 rfl (.inr rfl) (by conv => lhs; whnf) rfl rfl rfl ?_
  refine bnd1_elim h fun x1 q2 h => ?_
  refine s_callN (kb := []) (ns := []) (v := .sc (.bool x1)) rfl rfl cl34 (wi_NameOk p0.name x1 q2) rfl (.cons (.free rfl) .nil) trivial memNil .nil memNil rfl trivial memNil rfl rfl rfl rfl rfl rfl ?_
  refine s_of (st_not rfl rfl) rfl rfl rfl rfl ?_
  refine m1 ?_
  refine s_split (t := 7) rfl (fun b3 => ?_) (fun b3 => ?_)
  ·replace h := cond_t h b3
   refine s_skip rfl rfl rfl ?_
   refine s_skip rfl rfl rfl ?_
   refine s_skip rfl rfl rfl ?_
   refine s_skip rfl rfl rfl ?_
   refine s_pickT rfl rfl (v := .sc (.bool true)) rfl rfl rfl rfl ?_
   refine rt_nil ?_
   refine Exists.intro ⟨true, h⟩ ?_
   refine entX [((1, 0), ⟨62, 6, [[.sc (.string p0.name), .sc (.int .i64 p0.ty), .sc (.int .i64 p0.ttl), .sc (.int .i64 p0.n), .sc (.string p0.host), .sc (.string p0.text)]], false, true⟩, some (1, 0))] [] ⟨⟨rfl, _, rfl, rfl, rfl, rfl, id, rowsCv_one (.cons (.free rfl) (.cons (.free rfl) (.cons (.free rfl) (.cons (.free rfl) (.cons (.free rfl) (.cons (.free rfl) .nil)))))), rowsZ_one rfl⟩, trivial⟩ trivial rfl rfl ?_
   exact ⟨(.ptr rfl), (.free rfl), trivial⟩
  ·replace h := cond_f h b3
   refine s_fieldAddr rfl rfl fd62_2 rfl rfl rfl rfl ?_
   refine s_load rfl rfl rfl rfl ty3 rfl (.inr rfl) (by conv => lhs; whnf) rfl rfl rfl ?_
   refine bnd1_elim h fun x4 q5 h => ?_
   refine s_callN (kb := []) (ns := []) (v := .sc (.bool x4)) rfl rfl cl65 (wi_isTtl p0.ttl x4 q5) rfl (.cons (.free rfl) .nil) trivial memNil .nil memNil rfl trivial memNil rfl rfl rfl rfl rfl rfl ?_
   refine s_of (st_not rfl rfl) rfl rfl rfl rfl ?_
   refine s_pickF rfl rfl (by conv => lhs; whnf) rfl rfl rfl ?_
   refine rt_nil ?_
   refine Exists.intro ⟨!x4, h⟩ ?_
   refine entX [((1, 0), ⟨62, 6, [[.sc (.string p0.name), .sc (.int .i64 p0.ty), .sc (.int .i64 p0.ttl), .sc (.int .i64 p0.n), .sc (.string p0.host), .sc (.string p0.text)]], false, true⟩, some (1, 0))] [] ⟨⟨rfl, _, rfl, rfl, rfl, rfl, id, rowsCv_one (.cons (.free rfl) (.cons (.free rfl) (.cons (.free rfl) (.cons (.free rfl) (.cons (.free rfl) (.cons (.free rfl) .nil)))))), rowsZ_one rfl⟩, trivial⟩ trivial rfl rfl ?_
   exact ⟨(.ptr rfl), (.free rfl), trivial⟩
 ·rintro ⟨j0_0, h⟩
  replace h : i_RecordOk_j0 p0 j0_0 = some r0 := h
  unfold i_RecordOk_j0 at h
  show Tri _ _ _ (inv_i_RecordOk_0 p0 j0_0)
  refine tri_cond rfl (fun c1 => ?_) (fun c1 => ?_)
  ·replace h := cond_t h c1
   refine tri_sr ?_
   refine s_mv (.inr rfl) (v := .sc (.bool false)) rfl rfl rfl rfl ?_
   refine rt_nil ?_
   refine tri_ret ?_
   have e0 := (some1 h); subst e0
   exact endY [] [] (rvC (resTmp rfl) rvN) trivial trivial rfl rfl rfl rfl (.free rfl)
  ·replace h := cond_f h c1
   refine tri_skip ?_
   refine tri_seq ?_
   refine tri_sr ?_
   refine s_fieldAddr rfl rfl fd62_1 rfl rfl rfl rfl ?_
   refine s_load rfl rfl rfl rfl ty3 rfl (.inr rfl) (by conv => lhs; whnf) rfl rfl rfl ?_
   refine rt_nil ?_
   refine tri_block ?_
   refine tri_sr ?_
   refine s_of (st_eqI rfl rfl rfl) rfl rfl rfl rfl ?_
   refine m2 ?_
   refine rt_nil ?_
   refine tri_cond rfl (fun c2 => ?_) (fun c2 => ?_)
   ·replace h := cond_t h c2
    refine tri_sr ?_
    refine s_fieldAddr rfl rfl fd62_3 rfl rfl rfl rfl ?_
    refine s_load rfl rfl rfl rfl ty3 rfl (.inr rfl) (by conv => lhs; whnf) rfl rfl rfl ?_
    refine bnd1_elim h fun x3 q4 h => ?_
    refine s_callN (kb := []) (ns := []) (v := .sc (.bool x3)) rfl rfl cl66 (wi_isFour p0.n x3 q4) rfl (.cons (.free rfl) .nil) trivial memNil .nil memNil rfl trivial memNil rfl rfl rfl rfl rfl rfl ?_
    refine m1 ?_
    refine s_split (t := 20) rfl (fun b5 => ?_) (fun b5 => ?_)
    ·replace h := cond_t h b5
     refine s_fieldAddr rfl rfl fd62_4 rfl rfl rfl rfl ?_
     refine s_load rfl rfl rfl rfl ty9 rfl (.inr rfl) (by conv => lhs; whnf) rfl rfl rfl ?_
     refine s_of (st_eqS rfl rfl rfl) rfl rfl rfl rfl ?_
     refine s_pickT rfl rfl (by conv => lhs; whnf) rfl rfl rfl ?_
     refine m1 ?_
     refine s_split (t := 25) rfl (fun b6 => ?_) (fun b6 => ?_)
     ·replace h := cond_t h b6
      refine s_fieldAddr rfl rfl fd62_5 rfl rfl rfl rfl ?_
      refine s_load rfl rfl rfl rfl ty9 rfl (.inr rfl) (by conv => lhs; whnf) rfl rfl rfl ?_
      refine s_of (st_eqS rfl rfl rfl) rfl rfl rfl rfl ?_
      refine s_pickT rfl rfl (by conv => lhs; whnf) rfl rfl rfl ?_
      refine m2 ?_
      refine rt_nil ?_
      refine tri_ret ?_
      have e0 := (some1 h); subst e0
      exact endY [] [] (rvC (resTmp rfl) rvN) trivial trivial rfl rfl rfl rfl (.free rfl)
     ·replace h := cond_f h b6
      refine s_skip rfl rfl rfl ?_
      refine s_skip rfl rfl rfl ?_
      refine s_skip rfl rfl rfl ?_
      refine s_pickF rfl rfl (v := .sc (.bool false)) rfl rfl rfl rfl ?_
      refine m2 ?_
      refine rt_nil ?_
      refine tri_ret ?_
      have e0 := (some1 h); subst e0
      exact endY [] [] (rvC (resTmp rfl) rvN) trivial trivial rfl rfl rfl rfl (.free rfl)
    ·replace h := cond_f h b5
     refine s_skip rfl rfl rfl ?_
     refine s_skip rfl rfl rfl ?_
     refine s_skip rfl rfl rfl ?_
     refine s_pickF rfl rfl (v := .sc (.bool false)) rfl rfl rfl rfl ?_
     refine m1 ?_
     refine s_skip rfl rfl rfl ?_
     refine s_skip rfl rfl rfl ?_
     refine s_skip rfl rfl rfl ?_
     refine s_pickF rfl rfl (v := .sc (.bool false)) rfl rfl rfl rfl ?_
     refine m2 ?_
     refine rt_nil ?_
     refine tri_ret ?_
     have e0 := (some1 h); subst e0
     exact endY [] [] (rvC (resTmp rfl) rvN) trivial trivial rfl rfl rfl rfl (.free rfl)
   ·replace h := cond_f h c2
    refine tri_cutI (ι := { p : Bool // i_RecordOk_j1 p0 p = some r0 }) (fun p => inv_i_RecordOk_1 p0 p.1) ?_ ?_
    ·skip
     refine tri_sr ?_
     refine s_of (st_eqI rfl rfl rfl) rfl rfl rfl rfl ?_
     refine m2 ?_
     refine rt_nil ?_
     refine tri_cond rfl (fun c7 => ?_) (fun c7 => ?_)
     ·replace h := cond_t h c7
      refine tri_skip ?_
      refine Exists.intro ⟨decide (p0.ty = 2), h⟩ ?_
      refine entX [((1, 0), ⟨62, 6, [[.sc (.string p0.name), .sc (.int .i64 p0.ty), .sc (.int .i64 p0.ttl), .sc (.int .i64 p0.n), .sc (.string p0.host), .sc (.string p0.text)]], false, true⟩, some (1, 0))] [] ⟨⟨rfl, _, rfl, rfl, rfl, rfl, id, rowsCv_one (.cons (.free rfl) (.cons (.free rfl) (.cons (.free rfl) (.cons (.free rfl) (.cons (.free rfl) (.cons (.free rfl) .nil)))))), rowsZ_one rfl⟩, trivial⟩ trivial rfl rfl ?_
      exact ⟨(.ptr rfl), (.free rfl), (.free rfl), trivial⟩
     ·replace h := cond_f h c7
      refine tri_region ?_
      refine s_of (st_eqI rfl rfl rfl) rfl rfl rfl rfl ?_
      refine m2 ?_
      refine rt_nil ?_
      refine Exists.intro ⟨decide (p0.ty = 5), h⟩ ?_
      refine entX [((1, 0), ⟨62, 6, [[.sc (.string p0.name), .sc (.int .i64 p0.ty), .sc (.int .i64 p0.ttl), .sc (.int .i64 p0.n), .sc (.string p0.host), .sc (.string p0.text)]], false, true⟩, some (1, 0))] [] ⟨⟨rfl, _, rfl, rfl, rfl, rfl, id, rowsCv_one (.cons (.free rfl) (.cons (.free rfl) (.cons (.free rfl) (.cons (.free rfl) (.cons (.free rfl) (.cons (.free rfl) .nil)))))), rowsZ_one rfl⟩, trivial⟩ trivial rfl rfl ?_
      exact ⟨(.ptr rfl), (.free rfl), (.free rfl), trivial⟩
    ·rintro ⟨j1_0, h⟩
     replace h : i_RecordOk_j1 p0 j1_0 = some r0 := h
     unfold i_RecordOk_j1 at h
     show Tri _ _ _ (inv_i_RecordOk_1 p0 j1_0)
     refine tri_cond rfl (fun c7 => ?_) (fun c7 => ?_)
     ·replace h := cond_t h c7
      refine tri_sr ?_
      refine s_fieldAddr rfl rfl fd62_3 rfl rfl rfl rfl ?_
      refine s_load rfl rfl rfl rfl ty3 rfl (.inr rfl) (by conv => lhs; whnf) rfl rfl rfl ?_
      refine s_of (st_eqI rfl rfl rfl) rfl rfl rfl rfl ?_
      refine m1 ?_
      refine s_split (t := 36) rfl (fun b8 => ?_) (fun b8 => ?_)
      ·replace h := cond_t h b8
       refine s_fieldAddr rfl rfl fd62_4 rfl rfl rfl rfl ?_
       refine s_load rfl rfl rfl rfl ty9 rfl (.inr rfl) (by conv => lhs; whnf) rfl rfl rfl ?_
       refine bnd1_elim h fun x9 q10 h => ?_
       refine s_callN (kb := []) (ns := []) (v := .sc (.bool x9)) rfl rfl cl34 (wi_NameOk p0.host x9 q10) rfl (.cons (.free rfl) .nil) trivial memNil .nil memNil rfl trivial memNil rfl rfl rfl rfl rfl rfl ?_
       refine s_pickT rfl rfl (by conv => lhs; whnf) rfl rfl rfl ?_
       refine m1 ?_
       refine s_split (t := 41) rfl (fun b11 => ?_) (fun b11 => ?_)
       ·replace h := cond_t h b11
        refine s_fieldAddr rfl rfl fd62_5 rfl rfl rfl rfl ?_
        refine s_load rfl rfl rfl rfl ty9 rfl (.inr rfl) (by conv => lhs; whnf) rfl rfl rfl ?_
        refine s_of (st_eqS rfl rfl rfl) rfl rfl rfl rfl ?_
        refine s_pickT rfl rfl (by conv => lhs; whnf) rfl rfl rfl ?_
        refine m2 ?_
        refine rt_nil ?_
        refine tri_ret ?_
        have e0 := (some1 h); subst e0
        exact endY [] [] (rvC (resTmp rfl) rvN) trivial trivial rfl rfl rfl rfl (.free rfl)
       ·replace h := cond_f h b11
        refine s_skip rfl rfl rfl ?_
        refine s_skip rfl rfl rfl ?_
        refine s_skip rfl rfl rfl ?_
        refine s_pickF rfl rfl (v := .sc (.bool false)) rfl rfl rfl rfl ?_
        refine m2 ?_
        refine rt_nil ?_
        refine tri_ret ?_
        have e0 := (some1 h); subst e0
        exact endY [] [] (rvC (resTmp rfl) rvN) trivial trivial rfl rfl rfl rfl (.free rfl)
      ·replace h := cond_f h b8
       refine s_skip rfl rfl rfl ?_
       refine s_skip rfl rfl rfl ?_
       refine s_skip rfl rfl rfl ?_
       refine s_pickF rfl rfl (v := .sc (.bool false)) rfl rfl rfl rfl ?_
       refine m1 ?_
       refine s_skip rfl rfl rfl ?_
       refine s_skip rfl rfl rfl ?_
       refine s_skip rfl rfl rfl ?_
       refine s_pickF rfl rfl (v := .sc (.bool false)) rfl rfl rfl rfl ?_
       refine m2 ?_
       refine rt_nil ?_
       refine tri_ret ?_
       have e0 := (some1 h); subst e0
       exact endY [] [] (rvC (resTmp rfl) rvN) trivial trivial rfl rfl rfl rfl (.free rfl)
     ·replace h := cond_f h c7
      refine tri_sr ?_
      refine s_of (st_eqI rfl rfl rfl) rfl rfl rfl rfl ?_
      refine m2 ?_
      refine rt_nil ?_
      refine tri_cond rfl (fun c12 => ?_) (fun c12 => ?_)
      ·replace h := cond_t h c12
       refine tri_sr ?_
       refine s_fieldAddr rfl rfl fd62_3 rfl rfl rfl rfl ?_
       refine s_load rfl rfl rfl rfl ty3 rfl (.inr rfl) (by conv => lhs; whnf) rfl rfl rfl ?_
       refine bnd1_elim h fun x13 q14 h => ?_
       refine s_callN (kb := []) (ns := []) (v := .sc (.bool x13)) rfl rfl cl65 (wi_isTtl p0.n x13 q14) rfl (.cons (.free rfl) .nil) trivial memNil .nil memNil rfl trivial memNil rfl rfl rfl rfl rfl rfl ?_
       refine m1 ?_
       refine s_split (t := 51) rfl (fun b15 => ?_) (fun b15 => ?_)
       ·replace h := cond_t h b15
        refine s_fieldAddr rfl rfl fd62_4 rfl rfl rfl rfl ?_
        refine s_load rfl rfl rfl rfl ty9 rfl (.inr rfl) (by conv => lhs; whnf) rfl rfl rfl ?_
        refine bnd1_elim h fun x16 q17 h => ?_
        refine s_callN (kb := []) (ns := []) (v := .sc (.bool x16)) rfl rfl cl34 (wi_NameOk p0.host x16 q17) rfl (.cons (.free rfl) .nil) trivial memNil .nil memNil rfl trivial memNil rfl rfl rfl rfl rfl rfl ?_
        refine s_pickT rfl rfl (by conv => lhs; whnf) rfl rfl rfl ?_
        refine m1 ?_
        refine s_split (t := 56) rfl (fun b18 => ?_) (fun b18 => ?_)
        ·replace h := cond_t h b18
         refine s_fieldAddr rfl rfl fd62_5 rfl rfl rfl rfl ?_
         refine s_load rfl rfl rfl rfl ty9 rfl (.inr rfl) (by conv => lhs; whnf) rfl rfl rfl ?_
         refine s_of (st_eqS rfl rfl rfl) rfl rfl rfl rfl ?_
         refine s_pickT rfl rfl (by conv => lhs; whnf) rfl rfl rfl ?_
         refine m2 ?_
         refine rt_nil ?_
         refine tri_ret ?_
         have e0 := (some1 h); subst e0
         exact endY [] [] (rvC (resTmp rfl) rvN) trivial trivial rfl rfl rfl rfl (.free rfl)
        ·replace h := cond_f h b18
         refine s_skip rfl rfl rfl ?_
         refine s_skip rfl rfl rfl ?_
         refine s_skip rfl rfl rfl ?_
         refine s_pickF rfl rfl (v := .sc (.bool false)) rfl rfl rfl rfl ?_
         refine m2 ?_
         refine rt_nil ?_
         refine tri_ret ?_
         have e0 := (some1 h); subst e0
         exact endY [] [] (rvC (resTmp rfl) rvN) trivial trivial rfl rfl rfl rfl (.free rfl)
       ·replace h := cond_f h b15
        refine s_skip rfl rfl rfl ?_
        refine s_skip rfl rfl rfl ?_
        refine s_skip rfl rfl rfl ?_
        refine s_pickF rfl rfl (v := .sc (.bool false)) rfl rfl rfl rfl ?_
        refine m1 ?_
        refine s_skip rfl rfl rfl ?_
        refine s_skip rfl rfl rfl ?_
        refine s_skip rfl rfl rfl ?_
        refine s_pickF rfl rfl (v := .sc (.bool false)) rfl rfl rfl rfl ?_
        refine m2 ?_
        refine rt_nil ?_
        refine tri_ret ?_
        have e0 := (some1 h); subst e0
        exact endY [] [] (rvC (resTmp rfl) rvN) trivial trivial rfl rfl rfl rfl (.free rfl)
      ·replace h := cond_f h c12
       refine tri_sr ?_
       refine s_of (st_eqI rfl rfl rfl) rfl rfl rfl rfl ?_
       refine m2 ?_
       refine rt_nil ?_
       refine tri_cond rfl (fun c19 => ?_) (fun c19 => ?_)
       ·replace h := cond_t h c19
        refine tri_sr ?_
        refine s_fieldAddr rfl rfl fd62_3 rfl rfl rfl rfl ?_
        refine s_load rfl rfl rfl rfl ty3 rfl (.inr rfl) (by conv => lhs; whnf) rfl rfl rfl ?_
        refine s_of (st_eqI rfl rfl rfl) rfl rfl rfl rfl ?_
        refine m1 ?_
        refine s_split (t := 66) rfl (fun b20 => ?_) (fun b20 => ?_)
        ·replace h := cond_t h b20
         refine s_fieldAddr rfl rfl fd62_4 rfl rfl rfl rfl ?_
         refine s_load rfl rfl rfl rfl ty9 rfl (.inr rfl) (by conv => lhs; whnf) rfl rfl rfl ?_
         refine s_of (st_eqS rfl rfl rfl) rfl rfl rfl rfl ?_
         refine s_pickT rfl rfl (by conv => lhs; whnf) rfl rfl rfl ?_
         refine m1 ?_
         refine s_split (t := 71) rfl (fun b21 => ?_) (fun b21 => ?_)
         ·replace h := cond_t h b21
          refine s_fieldAddr rfl rfl fd62_5 rfl rfl rfl rfl ?_
          refine s_load rfl rfl rfl rfl ty9 rfl (.inr rfl) (by conv => lhs; whnf) rfl rfl rfl ?_
          refine bnd1_elim h fun x22 q23 h => ?_
          refine s_callN (kb := []) (ns := []) (v := .sc (.bool x22)) rfl rfl cl64 (wi_isText p0.text x22 q23) rfl (.cons (.free rfl) .nil) trivial memNil .nil memNil rfl trivial memNil rfl rfl rfl rfl rfl rfl ?_
          refine s_pickT rfl rfl (by conv => lhs; whnf) rfl rfl rfl ?_
          refine m2 ?_
          refine rt_nil ?_
          refine tri_ret ?_
          have e0 := (some1 h); subst e0
          exact endY [] [] (rvC (resTmp rfl) rvN) trivial trivial rfl rfl rfl rfl (.free rfl)
         ·replace h := cond_f h b21
          refine s_skip rfl rfl rfl ?_
          refine s_skip rfl rfl rfl ?_
          refine s_skip rfl rfl rfl ?_
          refine s_pickF rfl rfl (v := .sc (.bool false)) rfl rfl rfl rfl ?_
          refine m2 ?_
          refine rt_nil ?_
          refine tri_ret ?_
          have e0 := (some1 h); subst e0
          exact endY [] [] (rvC (resTmp rfl) rvN) trivial trivial rfl rfl rfl rfl (.free rfl)
        ·replace h := cond_f h b20
         refine s_skip rfl rfl rfl ?_
         refine s_skip rfl rfl rfl ?_
         refine s_skip rfl rfl rfl ?_
         refine s_pickF rfl rfl (v := .sc (.bool false)) rfl rfl rfl rfl ?_
         refine m1 ?_
         refine s_skip rfl rfl rfl ?_
         refine s_skip rfl rfl rfl ?_
         refine s_skip rfl rfl rfl ?_
         refine s_pickF rfl rfl (v := .sc (.bool false)) rfl rfl rfl rfl ?_
         refine m2 ?_
         refine rt_nil ?_
         refine tri_ret ?_
         have e0 := (some1 h); subst e0
         exact endY [] [] (rvC (resTmp rfl) rvN) trivial trivial rfl rfl rfl rfl (.free rfl)
       ·replace h := cond_f h c19
        refine tri_skip ?_
        refine tri_sr ?_
        refine s_mv (.inr rfl) (v := .sc (.bool false)) rfl rfl rfl rfl ?_
        refine rt_nil ?_
        refine tri_ret ?_
        have e0 := (some1 h); subst e0
        exact endY [] [] (rvC (resTmp rfl) rvN) trivial trivial rfl rfl rfl rfl (.free rfl)

/- impl.GetRecord -/
def inv_i_GetRecord_0 (x1 : ByteArray) (x2 : Int) (x16 : Int) (x20 : Int) (x24 : Rec) (j0_0 : Bool) : St := mkT 97 [(4, .ptr (4, 0) 0 0), (8, .sc (.int .i64 x2)), (16, .sc (.int .i64 x20)), (18, .ptr (18, 0) 0 0), (90, .sc (.bool j0_0))] [((4, 0), some ⟨62, 6, [[.sc (.string (⟨#[]⟩ : ByteArray)), .sc (.int .i64 0), .sc (.int .i64 0), .sc (.int .i64 0), .sc (.string (⟨#[]⟩ : ByteArray)), .sc (.string (⟨#[]⟩ : ByteArray))]], false, true⟩), ((18, 0), some ⟨62, 6, [[.sc (.string x1), .sc (.int .i64 x24.ty), .sc (.int .i64 x16), .sc (.int .i64 x24.n), .sc (.string x24.host), .sc (.string x24.text)]], false, true⟩)]
set_option maxRecDepth 4000 in
set_option maxHeartbeats 800000 in
theorem wi_GetRecord (p0 : List Int) (p1 : Int) (r0 : Rec) (r1 : Int) (r2 : Int) (h : i_GetRecord p0 p1 = some (r0, r1, r2)) : Runs Tryd.prog 38 [.lst 1 (List.map byteV p0), .sc (.int .i64 p1)] [] (.tup [.agg (recV r0), .sc (.int .i64 r1), .sc (.int .i64 r2)]) [] := by
 unfold i_GetRecord at h
 refine runsR [.cell 4 62, .tmp 5, .tmp 6] Tryd.func38 rfl rfl rfl rfl ?_
 rw [Tryd.ntmps38]
 refine tri_sr ?_
 refine s_alloc rfl rfl rfl zc62 rfl rfl rfl rfl rfl ?_
 refine s_mv (.inr rfl) (v := .sc (.int .i64 0)) rfl rfl rfl rfl ?_
 refine s_mv (.inr rfl) (v := .sc (.int .i64 0)) rfl rfl rfl rfl ?_
 refine rt_nil ?_
 refine tri_sr ?_
 refine m1 ?_
 refine m1 ?_
 refine bnd3_elim h fun x1 x2 x3 q4 h => ?_
 refine s_callN (kb := []) (ns := []) (v := .tup [.sc (.string x1), .sc (.int .i64 x2), .sc (.int .i64 x3)]) rfl rfl cl19 (wi_GetName p0 p1 x1 x2 x3 q4) rfl (.cons (.free rfl) (.cons (.free rfl) .nil)) trivial memNil .nil memNil rfl trivial memNil rfl rfl rfl rfl rfl rfl ?_
 refine m1 ?_
 refine s_extract rfl rfl rfl rfl rfl rfl ?_
 refine s_extract rfl rfl rfl rfl rfl rfl ?_
 refine s_extract rfl rfl rfl rfl rfl rfl ?_
 refine m2 ?_
 refine m2 ?_
 refine m2 ?_
 refine rt_nil ?_
 refine tri_seq ?_
 refine tri_sr ?_
 refine m1 ?_
 refine s_of (st_neI rfl rfl rfl) rfl rfl rfl rfl ?_
 refine rt_nil ?_
 refine tri_cond rfl (fun c5 => ?_) (fun c5 => ?_)
 ·replace h := cond_t h c5
  refine tri_sr ?_
  refine s_build (cells' := [.sc (.string (⟨#[]⟩ : ByteArray)), .sc (.int .i64 0), .sc (.int .i64 0), .sc (.int .i64 0), .sc (.string (⟨#[]⟩ : ByteArray)), .sc (.string (⟨#[]⟩ : ByteArray))]) rfl stc62 rfl rfl rfl rfl rfl rfl rfl ?_
  refine m1 ?_
  refine s_storeB rfl rfl rfl ty62 rfl rfl rfl rfl rfl ?_
  refine s_mv (.inr rfl) (v := .sc (.int .i64 0)) rfl rfl rfl rfl ?_
  refine m2 ?_
  refine rt_nil ?_
  refine tri_ret ?_
  have e0 := (some3 h).1; have e1 := (some3 h).2.1; have e2 := (some3 h).2.2; subst e0; subst e1; subst e2
  exact endY [] [] (rvC (resCell rfl rfl ty62) (rvC (resTmp rfl) (rvC (resTmp rfl) rvN))) trivial trivial rfl rfl rfl rfl (CvL.tup (.cons (cvAgg rfl) (.cons (.free rfl) (.cons (.free rfl) .nil))))
 ·replace h := cond_f h c5
  refine tri_skip ?_
  refine tri_seq ?_
  refine tri_sr ?_
  refine m1 ?_
  refine s_lenL rfl sl22 rfl rfl rfl rfl ?_
  refine m1 ?_
  refine grd_elim h fun g6 h => ?_
  refine s_subI rfl rfl rfl rfl g6 rfl rfl rfl ?_
  refine s_of (st_lss rfl rfl rfl) rfl rfl rfl rfl ?_
  refine rt_nil ?_
  refine tri_cond rfl (fun c7 => ?_) (fun c7 => ?_)
  ·replace h := cond_t h c7
   refine tri_sr ?_
   refine s_build (cells' := [.sc (.string (⟨#[]⟩ : ByteArray)), .sc (.int .i64 0), .sc (.int .i64 0), .sc (.int .i64 0), .sc (.string (⟨#[]⟩ : ByteArray)), .sc (.string (⟨#[]⟩ : ByteArray))]) rfl stc62 rfl rfl rfl rfl rfl rfl rfl ?_
   refine s_storeB rfl rfl rfl ty62 rfl rfl rfl rfl rfl ?_
   refine s_mv (.inr rfl) (v := .sc (.int .i64 0)) rfl rfl rfl rfl ?_
   refine s_mv (.inr rfl) (v := .sc (.int .i64 1)) rfl rfl rfl rfl ?_
   refine rt_nil ?_
   refine tri_ret ?_
   have e0 := (some3 h).1; have e1 := (some3 h).2.1; have e2 := (some3 h).2.2; subst e0; subst e1; subst e2
   exact endY [] [] (rvC (resCell rfl rfl ty62) (rvC (resTmp rfl) (rvC (resTmp rfl) rvN))) trivial trivial rfl rfl rfl rfl (CvL.tup (.cons (cvAgg rfl) (.cons (.free rfl) (.cons (.free rfl) .nil))))
  ·replace h := cond_f h c7
   refine tri_skip ?_
   refine tri_sr ?_
   refine m1 ?_
   refine m1 ?_
   refine bnd2_elim h fun x8 x9 q10 h => ?_
   refine s_callN (kb := []) (ns := []) (v := .tup [.sc (.int .i64 x8), .sc (.bool x9)]) rfl rfl cl20 (wi_Get2 p0 x2 x8 x9 q10) rfl (.cons (.free rfl) (.cons (.free rfl) .nil)) trivial memNil .nil memNil rfl trivial memNil rfl rfl rfl rfl rfl rfl ?_
   refine m1 ?_
   refine s_extract rfl rfl rfl rfl rfl rfl ?_
   refine s_extract rfl rfl rfl rfl rfl rfl ?_
   refine m2 ?_
   refine m2 ?_
   refine rt_nil ?_
   refine tri_sr ?_
   refine m1 ?_
   refine m1 ?_
   refine grd_elim h fun g11 h => ?_
   refine s_addI rfl rfl rfl rfl g11 rfl rfl rfl ?_
   refine bnd2_elim h fun x12 x13 q14 h => ?_
   refine s_callN (kb := []) (ns := []) (v := .tup [.sc (.int .i64 x12), .sc (.bool x13)]) rfl rfl cl20 (wi_Get2 p0 (x2 + 2) x12 x13 q14) rfl (.cons (.free rfl) (.cons (.free rfl) .nil)) trivial memNil .nil memNil rfl trivial memNil rfl rfl rfl rfl rfl rfl ?_
   refine m1 ?_
   refine s_extract rfl rfl rfl rfl rfl rfl ?_
   refine s_extract rfl rfl rfl rfl rfl rfl ?_
   refine m2 ?_
   refine m2 ?_
   refine rt_nil ?_
   refine tri_sr ?_
   refine m1 ?_
   refine m1 ?_
   refine grd_elim h fun g15 h => ?_
   refine s_addI rfl rfl rfl rfl g15 rfl rfl rfl ?_
   refine bnd2_elim h fun x16 x17 q18 h => ?_
   refine s_callN (kb := []) (ns := []) (v := .tup [.sc (.int .i64 x16), .sc (.bool x17)]) rfl rfl cl54 (wi_Get4 p0 (x2 + 4) x16 x17 q18) rfl (.cons (.free rfl) (.cons (.free rfl) .nil)) trivial memNil .nil memNil rfl trivial memNil rfl rfl rfl rfl rfl rfl ?_
   refine m1 ?_
   refine s_extract rfl rfl rfl rfl rfl rfl ?_
   refine s_extract rfl rfl rfl rfl rfl rfl ?_
   refine m2 ?_
   refine m2 ?_
   refine rt_nil ?_
   refine tri_sr ?_
   refine m1 ?_
   refine m1 ?_
   refine grd_elim h fun g19 h => ?_
   refine s_addI rfl rfl rfl rfl g19 rfl rfl rfl ?_
   refine bnd2_elim h fun x20 x21 q22 h => ?_
   refine s_callN (kb := []) (ns := []) (v := .tup [.sc (.int .i64 x20), .sc (.bool x21)]) rfl rfl cl20 (wi_Get2 p0 (x2 + 8) x20 x21 q22) rfl (.cons (.free rfl) (.cons (.free rfl) .nil)) trivial memNil .nil memNil rfl trivial memNil rfl rfl rfl rfl rfl rfl ?_
   refine m1 ?_
   refine s_extract rfl rfl rfl rfl rfl rfl ?_
   refine s_extract rfl rfl rfl rfl rfl rfl ?_
   refine m2 ?_
   refine m2 ?_
   refine rt_nil ?_
   refine tri_sr ?_
   refine m1 ?_
   refine m1 ?_
   refine grd_elim h fun g23 h => ?_
   refine s_addI rfl rfl rfl rfl g23 rfl rfl rfl ?_
   refine m1 ?_
   refine m1 ?_
   refine bnd2_elim h fun x24 x25 q26 h => ?_
   refine s_callN (kb := []) (ns := []) (v := .tup [.agg (recV x24), .sc (.int .i64 x25)]) rfl rfl cl55 (wi_GetData p0 (x2 + 10) x20 x8 x24 x25 q26) rfl (.cons (.free rfl) (.cons (.free rfl) (.cons (.free rfl) (.cons (.free rfl) .nil)))) trivial memNil .nil memNil rfl trivial memNil rfl rfl rfl rfl rfl rfl ?_
   refine m1 ?_
   refine s_extract rfl rfl rfl rfl rfl rfl ?_
   refine s_extract rfl rfl rfl rfl rfl rfl ?_
   refine s_alloc rfl rfl rfl zc62 rfl rfl rfl rfl rfl ?_
   refine s_storeB rfl rfl rfl ty62 rfl rfl rfl rfl rfl ?_
   refine m2 ?_
   refine rt_nil ?_
   refine tri_seq ?_
   refine tri_sr ?_
   refine m1 ?_
   refine s_of (st_neI rfl rfl rfl) rfl rfl rfl rfl ?_
   refine rt_nil ?_
   refine tri_cond rfl (fun c27 => ?_) (fun c27 => ?_)
   ·replace h := cond_t h c27
    refine tri_sr ?_
    refine s_build (cells' := [.sc (.string (⟨#[]⟩ : ByteArray)), .sc (.int .i64 0), .sc (.int .i64 0), .sc (.int .i64 0), .sc (.string (⟨#[]⟩ : ByteArray)), .sc (.string (⟨#[]⟩ : ByteArray))]) rfl stc62 rfl rfl rfl rfl rfl rfl rfl ?_
    refine m1 ?_
    refine s_storeB rfl rfl rfl ty62 rfl rfl rfl rfl rfl ?_
    refine s_mv (.inr rfl) (v := .sc (.int .i64 0)) rfl rfl rfl rfl ?_
    refine m2 ?_
    refine rt_nil ?_
    refine tri_ret ?_
    have e0 := (some3 h).1; have e1 := (some3 h).2.1; have e2 := (some3 h).2.2; subst e0; subst e1; subst e2
    exact endY [] [] (rvC (resCell rfl rfl ty62) (rvC (resTmp rfl) (rvC (resTmp rfl) rvN))) trivial trivial rfl rfl rfl rfl (CvL.tup (.cons (cvAgg rfl) (.cons (.free rfl) (.cons (.free rfl) .nil))))
   ·replace h := cond_f h c27
    refine tri_skip ?_
    refine tri_sr ?_
    refine m1 ?_
    refine s_fieldAddr rfl rfl fd62_0 rfl rfl rfl rfl ?_
    refine s_store (rows' := [[.sc (.string x1), .sc (.int .i64 x24.ty), .sc (.int .i64 x24.ttl), .sc (.int .i64 x24.n), .sc (.string x24.host), .sc (.string x24.text)]]) rfl rfl rfl rfl ty9 rfl rfl rfl rfl rfl rfl ?_
    refine rt_nil ?_
    refine tri_sr ?_
    refine m1 ?_
    refine s_fieldAddr rfl rfl fd62_2 rfl rfl rfl rfl ?_
    refine s_store (rows' := [[.sc (.string x1), .sc (.int .i64 x24.ty), .sc (.int .i64 x16), .sc (.int .i64 x24.n), .sc (.string x24.host), .sc (.string x24.text)]]) rfl rfl rfl rfl ty3 rfl rfl rfl rfl rfl rfl ?_
    refine rt_nil ?_
    refine tri_seq ?_
    refine tri_cutI (ι := { p : Bool // i_GetRecord_j0 x1 x2 x16 x20 x24 p = some (r0, r1, r2) }) (fun p => inv_i_GetRecord_0 x1 x2 x16 x20 x24 p.1) ?_ ?_
    ·skip
     refine tri_region ?_
     refine m1 ?_
     refine s_of (st_neI rfl rfl rfl) rfl rfl rfl rfl ?_
     refine m1 ?_
     refine s_split (t := 82) rfl (fun b28 => ?_) (fun b28 => ?_)
     ·replace h := cond_t h b28
      refine s_skip rfl rfl rfl ?_
      refine s_skip rfl rfl rfl ?_
      refine s_pickT rfl rfl (v := .sc (.bool true)) rfl rfl rfl rfl ?_
      refine m1 ?_
      refine s_skip rfl rfl rfl ?_
      refine s_skip rfl rfl rfl ?_
      refine s_skip rfl rfl rfl ?_
      refine s_pickT rfl rfl (v := .sc (.bool true)) rfl rfl rfl rfl ?_
      refine rt_nil ?_
      refine Exists.intro ⟨true, h⟩ ?_
      refine entX [((4, 0), ⟨62, 6, [[.sc (.string (⟨#[]⟩ : ByteArray)), .sc (.int .i64 0), .sc (.int .i64 0), .sc (.int .i64 0), .sc (.string (⟨#[]⟩ : ByteArray)), .sc (.string (⟨#[]⟩ : ByteArray))]], false, true⟩, some (4, 0)), ((18, 0), ⟨62, 6, [[.sc (.string x1), .sc (.int .i64 x24.ty), .sc (.int .i64 x16), .sc (.int .i64 x24.n), .sc (.string x24.host), .sc (.string x24.text)]], false, true⟩, some (18, 0))] [] ⟨⟨rfl, _, rfl, rfl, rfl, rfl, id, rowsCv_one (.cons (.free rfl) (.cons (.free rfl) (.cons (.free rfl) (.cons (.free rfl) (.cons (.free rfl) (.cons (.free rfl) .nil)))))), rowsZ_one rfl⟩, ⟨rfl, _, rfl, rfl, rfl, rfl, id, rowsCv_one (.cons (.free rfl) (.cons (.free rfl) (.cons (.free rfl) (.cons (.free rfl) (.cons (.free rfl) (.cons (.free rfl) .nil)))))), rowsZ_one rfl⟩, trivial⟩ trivial rfl rfl ?_
      exact ⟨(.ptr rfl), (.free rfl), (.free rfl), (.ptr rfl), (.free rfl), trivial⟩
     ·replace h := cond_f h b28
      refine m1 ?_
      refine s_of (st_not rfl rfl) rfl rfl rfl rfl ?_
      refine s_pickF rfl rfl (by conv => lhs; whnf) rfl rfl rfl ?_
      refine m1 ?_
      refine s_split (t := 86) rfl (fun b29 => ?_) (fun b29 => ?_)
      ·replace h := cond_t h b29
       refine s_skip rfl rfl rfl ?_
       refine s_skip rfl rfl rfl ?_
       refine s_skip rfl rfl rfl ?_
       refine s_pickT rfl rfl (v := .sc (.bool true)) rfl rfl rfl rfl ?_
       refine rt_nil ?_
       refine Exists.intro ⟨true, h⟩ ?_
       refine entX [((4, 0), ⟨62, 6, [[.sc (.string (⟨#[]⟩ : ByteArray)), .sc (.int .i64 0), .sc (.int .i64 0), .sc (.int .i64 0), .sc (.string (⟨#[]⟩ : ByteArray)), .sc (.string (⟨#[]⟩ : ByteArray))]], false, true⟩, some (4, 0)), ((18, 0), ⟨62, 6, [[.sc (.string x1), .sc (.int .i64 x24.ty), .sc (.int .i64 x16), .sc (.int .i64 x24.n), .sc (.string x24.host), .sc (.string x24.text)]], false, true⟩, some (18, 0))] [] ⟨⟨rfl, _, rfl, rfl, rfl, rfl, id, rowsCv_one (.cons (.free rfl) (.cons (.free rfl) (.cons (.free rfl) (.cons (.free rfl) (.cons (.free rfl) (.cons (.free rfl) .nil)))))), rowsZ_one rfl⟩, ⟨rfl, _, rfl, rfl, rfl, rfl, id, rowsCv_one (.cons (.free rfl) (.cons (.free rfl) (.cons (.free rfl) (.cons (.free rfl) (.cons (.free rfl) (.cons (.free rfl) .nil)))))), rowsZ_one rfl⟩, trivial⟩ trivial rfl rfl ?_
       exact ⟨(.ptr rfl), (.free rfl), (.free rfl), (.ptr rfl), (.free rfl), trivial⟩
      ·replace h := cond_f h b29
       refine s_loadR rfl rfl rfl rfl ty62 rfl rfl rfl ?_
       refine bnd1_elim h fun x30 q31 h => ?_
       refine s_callN (kb := []) (ns := []) (v := .sc (.bool x30)) rfl rfl cl56 (wi_RecordOk (Rec.mk x1 x24.ty x16 x24.n x24.host x24.text) x30 q31) rfl (.cons (relAgg rfl) .nil) trivial memNil .nil memNil rfl trivial memNil rfl rfl rfl rfl rfl rfl ?_
       refine s_of (st_not rfl rfl) rfl rfl rfl rfl ?_
       refine s_pickF rfl rfl (by conv => lhs; whnf) rfl rfl rfl ?_
       refine rt_nil ?_
       refine Exists.intro ⟨!x30, h⟩ ?_
       refine entX [((4, 0), ⟨62, 6, [[.sc (.string (⟨#[]⟩ : ByteArray)), .sc (.int .i64 0), .sc (.int .i64 0), .sc (.int .i64 0), .sc (.string (⟨#[]⟩ : ByteArray)), .sc (.string (⟨#[]⟩ : ByteArray))]], false, true⟩, some (4, 0)), ((18, 0), ⟨62, 6, [[.sc (.string x1), .sc (.int .i64 x24.ty), .sc (.int .i64 x16), .sc (.int .i64 x24.n), .sc (.string x24.host), .sc (.string x24.text)]], false, true⟩, some (18, 0))] [] ⟨⟨rfl, _, rfl, rfl, rfl, rfl, id, rowsCv_one (.cons (.free rfl) (.cons (.free rfl) (.cons (.free rfl) (.cons (.free rfl) (.cons (.free rfl) (.cons (.free rfl) .nil)))))), rowsZ_one rfl⟩, ⟨rfl, _, rfl, rfl, rfl, rfl, id, rowsCv_one (.cons (.free rfl) (.cons (.free rfl) (.cons (.free rfl) (.cons (.free rfl) (.cons (.free rfl) (.cons (.free rfl) .nil)))))), rowsZ_one rfl⟩, trivial⟩ trivial rfl rfl ?_
       exact ⟨(.ptr rfl), (.free rfl), (.free rfl), (.ptr rfl), (.free rfl), trivial⟩
    ·rintro ⟨j0_0, h⟩
     replace h : i_GetRecord_j0 x1 x2 x16 x20 x24 j0_0 = some (r0, r1, r2) := h
     unfold i_GetRecord_j0 at h
     show Tri _ _ _ (inv_i_GetRecord_0 x1 x2 x16 x20 x24 j0_0)
     refine tri_cond rfl (fun c28 => ?_) (fun c28 => ?_)
     ·replace h := cond_t h c28
      refine tri_sr ?_
      refine s_build (cells' := [.sc (.string (⟨#[]⟩ : ByteArray)), .sc (.int .i64 0), .sc (.int .i64 0), .sc (.int .i64 0), .sc (.string (⟨#[]⟩ : ByteArray)), .sc (.string (⟨#[]⟩ : ByteArray))]) rfl stc62 rfl rfl rfl rfl rfl rfl rfl ?_
      refine s_storeB rfl rfl rfl ty62 rfl rfl rfl rfl rfl ?_
      refine s_mv (.inr rfl) (v := .sc (.int .i64 0)) rfl rfl rfl rfl ?_
      refine s_mv (.inr rfl) (v := .sc (.int .i64 2)) rfl rfl rfl rfl ?_
      refine rt_nil ?_
      refine tri_ret ?_
      have e0 := (some3 h).1; have e1 := (some3 h).2.1; have e2 := (some3 h).2.2; subst e0; subst e1; subst e2
      exact endY [] [] (rvC (resCell rfl rfl ty62) (rvC (resTmp rfl) (rvC (resTmp rfl) rvN))) trivial trivial rfl rfl rfl rfl (CvL.tup (.cons (cvAgg rfl) (.cons (.free rfl) (.cons (.free rfl) .nil))))
     ·replace h := cond_f h c28
      refine tri_skip ?_
      refine tri_sr ?_
      refine s_loadR rfl rfl rfl rfl ty62 rfl rfl rfl ?_
      refine m1 ?_
      refine grd_elim h fun g29 h => ?_
      refine s_addI rfl rfl rfl rfl g29 rfl rfl rfl ?_
      refine m1 ?_
      refine grd_elim h fun g30 h => ?_
      refine s_addI rfl rfl rfl rfl g30 rfl rfl rfl ?_
      refine s_storeB rfl rfl rfl ty62 rfl rfl rfl rfl rfl ?_
      refine m2 ?_
      refine s_mv (.inr rfl) (v := .sc (.int .i64 0)) rfl rfl rfl rfl ?_
      refine rt_nil ?_
      refine tri_ret ?_
      have e0 := (some3 h).1; have e1 := (some3 h).2.1; have e2 := (some3 h).2.2; subst e0; subst e1; subst e2
      exact endY [] [] (rvC (resCell rfl rfl ty62) (rvC (resTmp rfl) (rvC (resTmp rfl) rvN))) trivial trivial rfl rfl rfl rfl (CvL.tup (.cons (cvAgg rfl) (.cons (.free rfl) (.cons (.free rfl) .nil))))

/- impl.GetRecords -/
def inv_i_GetRecords_1 (p0 : List Int) (p2 : Int) (v1_0 : Int) (v1_1 : List Rec) (v1_2 : Int) : St := mkT 41 [(0, .lst 1 (List.map byteV p0)), (1, .sc (.int .i64 v1_0)), (9, .ref (2009, 0) 0 v1_1.length), (20, .sc (.int .i64 p2)), (21, .sc (.int .i64 v1_2))] [((2009, 0), some ⟨62, 6, List.map recV v1_1, false, true⟩)]
def inv_i_GetRecords_0 (p0 : List Int) (p1 : Int) (p2 : Int) (j0_0 : Bool) : St := mkT 41 [(0, .lst 1 (List.map byteV p0)), (1, .sc (.int .i64 p1)), (2, .sc (.int .i64 p2)), (18, .sc (.bool j0_0))] []
set_option maxRecDepth 4000 in
set_option maxHeartbeats 800000 in
theorem wi_GetRecords (p0 : List Int) (p1 : Int) (p2 : Int) (r0 : List Rec) (r1 : Int) (r2 : Int) (h : i_GetRecords p0 p1 p2 = some (r0, r1, r2)) : Runs Tryd.prog 25 [.lst 1 (List.map byteV p0), .sc (.int .i64 p1), .sc (.int .i64 p2)] [] (.tup [.own 62 6 (List.map recV r0), .sc (.int .i64 r1), .sc (.int .i64 r2)]) [] := by
 unfold i_GetRecords at h
 refine runsR [.tmp 6, .tmp 7, .tmp 8] Tryd.func25 rfl rfl rfl rfl ?_
 rw [Tryd.ntmps25]
 refine tri_sr ?_
 refine s_mv (.inr rfl) (v := .nils) rfl rfl rfl rfl ?_
 refine s_mv (.inr rfl) (v := .sc (.int .i64 0)) rfl rfl rfl rfl ?_
 refine s_mv (.inr rfl) (v := .sc (.int .i64 0)) rfl rfl rfl rfl ?_
 refine rt_nil ?_
 refine tri_seq ?_
 refine tri_cutI (ι := { p : Bool // i_GetRecords_j0 p0 p1 p2 p = some (r0, r1, r2) }) (fun p => inv_i_GetRecords_0 p0 p1 p2 p.1) ?_ ?_
 ·skip
  refine tri_region ?_
  refine m1 ?_
  refine s_of (st_lss rfl rfl rfl) rfl rfl rfl rfl ?_
  refine m1 ?_
  refine s_split (t := 15) rfl (fun b1 => ?_) (fun b1 => ?_)
  ·replace h := cond_t h b1
   refine s_skip rfl rfl rfl ?_
   refine s_skip rfl rfl rfl ?_
   refine s_pickT rfl rfl (v := .sc (.bool true)) rfl rfl rfl rfl ?_
   refine rt_nil ?_
   refine Exists.intro ⟨true, h⟩ ?_
   refine entX [] [] trivial trivial rfl rfl ?_
   exact ⟨(.free rfl), (.free rfl), (.free rfl), (.free rfl), trivial⟩
  ·replace h := cond_f h b1
   refine m1 ?_
   refine s_of (st_gtr rfl rfl rfl) rfl rfl rfl rfl ?_
   refine s_pickF rfl rfl (by conv => lhs; whnf) rfl rfl rfl ?_
   refine rt_nil ?_
   refine Exists.intro ⟨decide (8 < p2), h⟩ ?_
   refine entX [] [] trivial trivial rfl rfl ?_
   exact ⟨(.free rfl), (.free rfl), (.free rfl), (.free rfl), trivial⟩
 ·rintro ⟨j0_0, h⟩
  replace h : i_GetRecords_j0 p0 p1 p2 j0_0 = some (r0, r1, r2) := h
  unfold i_GetRecords_j0 at h
  show Tri _ _ _ (inv_i_GetRecords_0 p0 p1 p2 j0_0)
  refine tri_cond rfl (fun c1 => ?_) (fun c1 => ?_)
  ·replace h := cond_t h c1
   refine tri_sr ?_
   refine s_mv (.inr rfl) (v := .nils) rfl rfl rfl rfl ?_
   refine s_mv (.inr rfl) (v := .sc (.int .i64 0)) rfl rfl rfl rfl ?_
   refine s_mv (.inr rfl) (v := .sc (.int .i64 2)) rfl rfl rfl rfl ?_
   refine rt_nil ?_
   refine tri_ret ?_
   have e0 := (some3 h).1; have e1 := (some3 h).2.1; have e2 := (some3 h).2.2; subst e0; subst e1; subst e2
   exact endY (v' := .tup [.ref (2000, 100) 0 (([] : List Rec).length), .sc (.int .i64 0), .sc (.int .i64 2)]) [((2000, 100), ⟨62, 6, List.map recV ([] : List Rec), false, true⟩, none)] [] (rvC (resTmp rfl) (rvC (resTmp rfl) (rvC (resTmp rfl) rvN))) ⟨rfl, trivial⟩ trivial rfl rfl (by kernel_rfl) (by simp only [V.mat, V.mat1, V.mat0, matL, matT, List.length_map] <;> rfl) (CvL.tup (.cons (.nilRef rfl) (.cons (.free rfl) (.cons (.free rfl) .nil))))
  ·replace h := cond_f h c1
   refine tri_skip ?_
   refine tri_sr ?_
   refine s_buildSlice (rows' := List.map recV ([] : List Rec)) rfl rfl rfl sl31 zc62 rfl rfl rfl rfl rfl rfl rfl rfl rfl ?_
   refine m2 ?_
   refine rt_nil ?_
   refine tri_seq ?_
   refine tri_sr ?_
   refine m1 ?_
   refine s_mv (.inl rfl) (v := .sc (.int .i64 0)) rfl rfl rfl rfl ?_
   refine rt_nil ?_
   refine tri_block ?_
   refine tri_loop (ι := { p : Nat × Int × (List Rec) × Int // i_GetRecords_l1 p0 p2 p.1 p.2.1 p.2.2.1 p.2.2.2 = some (r0, r1, r2) }) (fun p => inv_i_GetRecords_1 p0 p2 p.1.2.1 p.1.2.2.1 p.1.2.2.2) (fun p => p.1.1) ⟨(fuel0, p1, ([] : List Rec), 0), h⟩ ?_ ?_
   ·skip
    refine entX [((2009, 0), ⟨62, 6, List.map recV ([] : List Rec), false, true⟩, some (19, 0))] [] ⟨⟨rfl, _, rfl, rfl, rfl, rfl, id, rowsCv_eq rfl (allFree_map recV_free), rowsZ_map recV_len⟩, trivial⟩ trivial rfl rfl ?_
    exact ⟨(.free rfl), (.free rfl), (.ref rfl), (.free rfl), (.free rfl), trivial⟩
   ·rintro ⟨⟨f1, v1_0, v1_1, v1_2⟩, h⟩
    replace h : i_GetRecords_l1 p0 p2 f1 v1_0 v1_1 v1_2 = some (r0, r1, r2) := h
    cases f1 with
    | zero => cases h
    | succ f1 =>
    rw [i_GetRecords_l1] at h
    show Tri _ _ _ (inv_i_GetRecords_1 p0 p2 v1_0 v1_1 v1_2)
    refine tri_sr ?_
    refine s_of (st_lss rfl rfl rfl) rfl rfl rfl rfl ?_
    refine rt_nil ?_
    refine tri_seq ?_
    refine tri_cond rfl (fun c2 => ?_) (fun c2 => ?_)
    ·replace h := cond_t h c2
     refine tri_skip ?_
     refine tri_seq ?_
     refine tri_block ?_
     refine tri_sr ?_
     refine m1 ?_
     refine m1 ?_
     refine bnd3_elim h fun x3 x4 x5 q6 h => ?_
     refine s_callN (kb := []) (ns := []) (v := .tup [.agg (recV x3), .sc (.int .i64 x4), .sc (.int .i64 x5)]) rfl rfl cl38 (wi_GetRecord p0 v1_0 x3 x4 x5 q6) rfl (.cons (.free rfl) (.cons (.free rfl) .nil)) trivial memNil .nil memNil rfl trivial memNil rfl rfl rfl rfl rfl rfl ?_
     refine m1 ?_
     refine s_extract rfl rfl rfl rfl rfl rfl ?_
     refine s_extract rfl rfl rfl rfl rfl rfl ?_
     refine s_extract rfl rfl rfl rfl rfl rfl ?_
     refine s_alloc rfl rfl rfl zc62 rfl rfl rfl rfl rfl ?_
     refine s_storeB rfl rfl rfl ty62 rfl rfl rfl rfl rfl ?_
     refine m2 ?_
     refine m2 ?_
     refine rt_nil ?_
     refine tri_seq ?_
     refine tri_sr ?_
     refine m1 ?_
     refine s_of (st_neI rfl rfl rfl) rfl rfl rfl rfl ?_
     refine rt_nil ?_
     refine tri_cond rfl (fun c7 => ?_) (fun c7 => ?_)
     ·replace h := cond_t h c7
      refine tri_sr ?_
      refine m1 ?_
      refine s_mv (.inr rfl) (v := .nils) rfl rfl rfl rfl ?_
      refine s_mv (.inr rfl) (v := .sc (.int .i64 0)) rfl rfl rfl rfl ?_
      refine m2 ?_
      refine rt_nil ?_
      refine tri_ret ?_
      have e0 := (some3 h).1; have e1 := (some3 h).2.1; have e2 := (some3 h).2.2; subst e0; subst e1; subst e2
      exact endY (v' := .tup [.ref (2000, 100) 0 (([] : List Rec).length), .sc (.int .i64 0), .sc (.int .i64 x5)]) [((2000, 100), ⟨62, 6, List.map recV ([] : List Rec), false, true⟩, none)] [] (rvC (resTmp rfl) (rvC (resTmp rfl) (rvC (resTmp rfl) rvN))) ⟨rfl, trivial⟩ trivial rfl rfl (by kernel_rfl) (by simp only [V.mat, V.mat1, V.mat0, matL, matT, List.length_map] <;> rfl) (CvL.tup (.cons (.nilRef rfl) (.cons (.free rfl) (.cons (.free rfl) .nil))))
     ·replace h := cond_f h c7
      refine tri_skip ?_
      refine tri_sr ?_
      refine m1 ?_
      refine s_loadR rfl rfl rfl rfl ty62 rfl rfl rfl ?_
      refine s_buildSlice (rows' := List.map recV [x3]) rfl rfl rfl sl31 zc62 rfl rfl rfl rfl rfl rfl rfl rfl rfl ?_
      refine grd_elim h fun g8 h => ?_
      refine s_appL rfl rfl rfl sl31 zc62 rfl rfl rfl rfl rfl rfl (src_refL rfl rfl) g8 rfl rfl ?_
      refine m2 ?_
      refine rt_nil ?_
      refine tri_region ?_
      refine m1 ?_
      refine m2 ?_
      refine rt_nil ?_
      refine tri_region ?_
      refine grd_elim h fun g9 h => ?_
      refine s_addI rfl rfl rfl rfl g9 rfl rfl rfl ?_
      refine m1 ?_
      refine rt_nil ?_
      refine Exists.intro ⟨(f1, x4, v1_1 ++ [x3], v1_2 + 1), h⟩ (And.intro (Nat.lt_succ_self _) ?_)
      refine entX [((2009, 0), ⟨62, 6, List.map recV (v1_1 ++ [x3]), false, true⟩, some (36, 0))] [] ⟨⟨rfl, _, rfl, rfl, rfl, rfl, id, rowsCv_eq rfl (allFree_map recV_free), rowsZ_map recV_len⟩, trivial⟩ trivial rfl rfl ?_
      exact ⟨(.free rfl), (.free rfl), (.ref rfl), (.free rfl), (.free rfl), trivial⟩
    ·replace h := cond_f h c2
     refine tri_exit ?_
     refine tri_sr ?_
     refine m1 ?_
     refine m1 ?_
     refine m2 ?_
     refine m2 ?_
     refine s_mv (.inr rfl) (v := .sc (.int .i64 0)) rfl rfl rfl rfl ?_
     refine rt_nil ?_
     refine tri_ret ?_
     have e0 := (some3 h).1; have e1 := (some3 h).2.1; have e2 := (some3 h).2.2; subst e0; subst e1; subst e2
     exact endY (v' := .tup [.ref (2000, 100) 0 v1_1.length, .sc (.int .i64 v1_0), .sc (.int .i64 0)]) [((2000, 100), ⟨62, 6, List.map recV v1_1, false, true⟩, some (2009, 0))] [] (rvC (resTmp rfl) (rvC (resTmp rfl) (rvC (resTmp rfl) rvN))) ⟨⟨rfl, _, rfl, rfl, rfl, rfl, id, rowsCv_eq rfl (allFree_map recV_free), rowsZ_map recV_len⟩, trivial⟩ trivial rfl rfl (by kernel_rfl) (by simp only [V.mat, V.mat1, V.mat0, matL, matT, List.length_map] <;> rfl) (CvL.tup (.cons (.ref rfl) (.cons (.free rfl) (.cons (.free rfl) .nil))))

end Go.Abs.M
