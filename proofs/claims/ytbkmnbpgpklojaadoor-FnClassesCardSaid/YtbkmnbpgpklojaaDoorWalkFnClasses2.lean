/- Walks of the functions that the law of FnClasses reaches: what each of them computes, where its pure function does not fail. -/
import Derived.Test.YtbkmnbpgpklojaaDoorWalkFnClasses1
set_option linter.unusedSimpArgs false
set_option linter.unusedVariables false
namespace Go.Abs.M
open Go Go.Abs Go.Proofs
theorem cl11 : callable Tryd.prog 11 = true := by kernel_rfl
theorem cl22 : callable Tryd.prog 22 = true := by kernel_rfl
theorem cl23 : callable Tryd.prog 23 = true := by kernel_rfl
theorem cl24 : callable Tryd.prog 24 = true := by kernel_rfl
theorem cl25 : callable Tryd.prog 25 = true := by kernel_rfl
theorem cl26 : callable Tryd.prog 26 = true := by kernel_rfl
theorem cl29 : callable Tryd.prog 29 = true := by kernel_rfl
theorem isb4 : isBool Tryd.prog 4 = true := by kernel_rfl
/- laws.FnClasses -/
def inv_w_FnClasses_3 (x4 : MForest) (x5 : Quest) (x7 : List ByteArray) (v1_0 : Nat) (j3_0 : Bool) : St := mkT 95 [(3, .ptr (3, 0) 0 0), (4, .ptr (4, 0) 0 0), (5, .ref (21, 0) 0 x7.length), (6, .sc (.int .i64 (v1_0 : Int))), (91, .sc (.bool j3_0))] [((3, 0), some ⟨45, 2, [[.ref (16, 100) 0 x4.zones.length, .ref (16, 101) 0 x4.posts.length]], false, true⟩), ((16, 100), some ⟨26, 2, List.map mZoneV x4.zones, false, true⟩), ((16, 101), some ⟨146, 2, List.map mPostV x4.posts, false, true⟩), ((4, 0), some ⟨28, 2, [[.sc (.string x5.name), .sc (.int .i64 x5.ty)]], false, true⟩), ((21, 0), some ⟨9, 1, List.map strV x7, false, true⟩)]
def inv_w_FnClasses_2 (x4 : MForest) (x5 : Quest) (x7 : List ByteArray) (v1_0 : Nat) (e1 : MZone) (x15 : MMsg) (x17 : Int) (j2_0 : Bool) : St := mkT 95 [(3, .ptr (3, 0) 0 0), (4, .ptr (4, 0) 0 0), (5, .ref (21, 0) 0 x7.length), (6, .sc (.int .i64 (v1_0 : Int))), (7, .ptr (7, 0) 0 0), (8, .ptr (8, 0) 0 0), (9, .sc (.int .i64 x17)), (65, .sc (.bool j2_0))] [((3, 0), some ⟨45, 2, [[.ref (16, 100) 0 x4.zones.length, .ref (16, 101) 0 x4.posts.length]], false, true⟩), ((16, 100), some ⟨26, 2, List.map mZoneV x4.zones, false, true⟩), ((16, 101), some ⟨146, 2, List.map mPostV x4.posts, false, true⟩), ((4, 0), some ⟨28, 2, [[.sc (.string x5.name), .sc (.int .i64 x5.ty)]], false, true⟩), ((21, 0), some ⟨9, 1, List.map strV x7, false, true⟩), ((7, 0), some ⟨26, 2, [[.sc (.string e1.apex), .lst 6 (List.map recV e1.l)]], false, true⟩), ((8, 0), some ⟨50, 12, [[.sc (.int .i64 x15.id), .sc (.bool x15.reply), .sc (.bool x15.auth), .sc (.bool x15.cut), .sc (.bool x15.want), .sc (.bool x15.can), .sc (.int .i64 x15.code), .sc (.string x15.q.name), .sc (.int .i64 x15.q.ty), .ref (43, 9) 0 x15.an.length, .ref (43, 10) 0 x15.au.length, .ref (43, 11) 0 x15.ad.length]], false, true⟩), ((43, 9), some ⟨39, 6, List.map recV x15.an, false, true⟩), ((43, 10), some ⟨39, 6, List.map recV x15.au, false, true⟩), ((43, 11), some ⟨39, 6, List.map recV x15.ad, false, true⟩)]
def inv_w_FnClasses_1 (x4 : MForest) (x5 : Quest) (x7 : List ByteArray) (v1_0 : Nat) : St := mkT 95 [(3, .ptr (3, 0) 0 0), (4, .ptr (4, 0) 0 0), (5, .ref (21, 0) 0 x7.length), (6, .sc (.int .i64 (v1_0 : Int)))] [((3, 0), some ⟨45, 2, [[.ref (16, 100) 0 x4.zones.length, .ref (16, 101) 0 x4.posts.length]], false, true⟩), ((16, 100), some ⟨26, 2, List.map mZoneV x4.zones, false, true⟩), ((16, 101), some ⟨146, 2, List.map mPostV x4.posts, false, true⟩), ((4, 0), some ⟨28, 2, [[.sc (.string x5.name), .sc (.int .i64 x5.ty)]], false, true⟩), ((21, 0), some ⟨9, 1, List.map strV x7, false, true⟩)]
def inv_w_FnClasses_0 (x7 : List ByteArray) : St := mkT 95 [(5, .ref (21, 0) 0 x7.length)] [((21, 0), some ⟨9, 1, List.map strV x7, false, true⟩)]
set_option maxRecDepth 4000 in
set_option maxHeartbeats 800000 in
theorem ww_FnClasses (p0 : List Int) (r0 : Bool) (h : w_FnClasses p0 = some r0) : Runs Tryd.prog 4 [.lst 1 (List.map byteV p0)] [] (.sc (.bool r0)) [] := by
 unfold w_FnClasses at h
 refine runsR [.tmp 2] Tryd.func4 rfl rfl rfl rfl ?_
 rw [Tryd.ntmps4]
 refine tri_sr ?_
 refine s_mv (.inr rfl) (v := .sc (.bool false)) rfl rfl rfl rfl ?_
 refine rt_nil ?_
 refine tri_seq ?_
 refine tri_sr ?_
 refine m1 ?_
 refine bnd1_elim h fun x1 q2 h => ?_
 refine s_callN (kb := []) (ns := []) (v := .sc (.bool x1)) rfl rfl cl11 (ww_big p0 x1 q2) rfl (.cons (.free rfl) .nil) trivial memNil .nil memNil rfl trivial memNil rfl rfl rfl rfl rfl rfl ?_
 refine rt_nil ?_
 refine tri_cond rfl (fun c3 => ?_) (fun c3 => ?_)
 ·replace h := cond_t h c3
  refine tri_sr ?_
  refine s_mv (.inr rfl) (v := .sc (.bool true)) rfl rfl rfl rfl ?_
  refine rt_nil ?_
  refine tri_ret ?_
  have e0 := (some1 h); subst e0
  exact endY [] [] (rvC (resTmp rfl) rvN) trivial trivial rfl rfl rfl rfl (.free rfl)
 ·replace h := cond_f h c3
  refine tri_skip ?_
  refine tri_sr ?_
  refine m1 ?_
  refine bnd2_elim h fun x4 x5 q6 h => ?_
  refine s_callZ (kb := []) (ns := []) (v := .tup [.agg [.ref (16, 100) 0 x4.zones.length, .ref (16, 101) 0 x4.posts.length], .agg (questV x5)]) rfl rfl cl22 (ws_DrawForest p0 x4 x5 q6) rfl (.cons (.free rfl) .nil) trivial memNil .nil memNil trivial rfl ⟨(allFree_map mZoneV_free), ⟨(allFree_map mPostV_free), trivial⟩⟩ memNil rfl (by simp only [V.mat, V.mat1, V.mat0, matL, matT, List.length_map] <;> rfl) rfl rfl rfl rfl ?_
  refine m1 ?_
  refine s_extract rfl rfl rfl rfl rfl rfl ?_
  refine s_extract rfl rfl rfl rfl rfl rfl ?_
  refine s_alloc rfl rfl rfl zc45 rfl rfl rfl rfl rfl ?_
  refine s_alloc rfl rfl rfl zc28 rfl rfl rfl rfl rfl ?_
  refine s_storeB rfl rfl rfl ty45 rfl rfl rfl rfl rfl ?_
  refine s_storeB rfl rfl rfl ty28 rfl rfl rfl rfl rfl ?_
  refine rt_nil ?_
  refine tri_sr ?_
  refine s_fieldAddr rfl rfl fd28_0 rfl rfl rfl rfl ?_
  refine s_load rfl rfl rfl rfl ty9 rfl (.inr rfl) (by conv => lhs; whnf) rfl rfl rfl ?_
  refine bnd1_elim h fun x7 q8 h => ?_
  refine s_callN (kb := []) (ns := []) (v := .ref (21, 0) 0 x7.length) rfl rfl cl23 (wi_Above x5.name x7 q8) rfl (.cons (.free rfl) .nil) trivial memNil .nil memNil rfl ⟨(allSc_map strV_sc), trivial⟩ memNil rfl (by simp only [V.mat, V.mat1, V.mat0, matL, matT, List.length_map] <;> rfl) rfl rfl rfl rfl ?_
  refine m2 ?_
  refine rt_nil ?_
  refine tri_cutI (ι := { p : Unit // w_FnClasses_j0 x7 = some r0 }) (fun p => inv_w_FnClasses_0 x7) ?_ ?_
  ·skip
   refine tri_sr ?_
   refine s_mv (.inr rfl) (v := .sc (.int .i64 0)) rfl rfl rfl rfl ?_
   refine rt_nil ?_
   refine tri_block ?_
   refine tri_ownM (16, 100) rfl (fun hl1 => ?_)
   refine tri_loop (ι := { p : (List MZone) × Nat // x4.zones.drop p.2 = p.1 ∧ w_FnClasses_l1 x5 x7 p.1 p.2 = some r0 }) (fun p => inv_w_FnClasses_1 x4 x5 x7 p.1.2) (fun p => p.1.1.length) ⟨(x4.zones, 0), rfl, h⟩ ?_ ?_
   ·skip
    refine entX [((3, 0), ⟨45, 2, [[.ref (16, 100) 0 x4.zones.length, .ref (16, 101) 0 x4.posts.length]], false, true⟩, some (3, 0)), ((16, 100), ⟨26, 2, List.map mZoneV x4.zones, false, true⟩, some (16, 100)), ((16, 101), ⟨146, 2, List.map mPostV x4.posts, false, true⟩, some (16, 101)), ((4, 0), ⟨28, 2, [[.sc (.string x5.name), .sc (.int .i64 x5.ty)]], false, true⟩, some (4, 0)), ((21, 0), ⟨9, 1, List.map strV x7, false, true⟩, some (21, 0))] [] ⟨⟨rfl, _, rfl, rfl, rfl, rfl, id, rowsCv_one (.cons (.ref rfl) (.cons (.ref rfl) .nil)), rowsZ_one rfl⟩, ⟨rfl, _, rfl, rfl, rfl, rfl, id, rowsCv_eq rfl (allFree_map mZoneV_free), rowsZ_map mZoneV_len⟩, ⟨rfl, _, rfl, rfl, rfl, rfl, id, rowsCv_eq rfl (allFree_map mPostV_free), rowsZ_map mPostV_len⟩, ⟨rfl, _, rfl, rfl, rfl, rfl, id, rowsCv_one (.cons (.free rfl) (.cons (.free rfl) .nil)), rowsZ_one rfl⟩, ⟨rfl, _, rfl, rfl, rfl, rfl, id, rowsCv_eq rfl (allFree_map strV_free), rowsZ_map strV_len⟩, trivial⟩ trivial rfl rfl ?_
    exact ⟨(.ptr rfl), (.ptr rfl), (.ref rfl), (.free rfl), trivial⟩
   ·rintro ⟨⟨lrs1, v1_0⟩, hd1, h⟩
    replace hd1 : x4.zones.drop v1_0 = lrs1 := hd1
    replace h : w_FnClasses_l1 x5 x7 lrs1 v1_0 = some r0 := h
    show Tri _ _ _ (inv_w_FnClasses_1 x4 x5 x7 v1_0)
    refine tri_seq ?_
    refine tri_sr ?_
    refine m1 ?_
    refine s_fieldAddr rfl rfl fd45_0 rfl rfl rfl rfl ?_
    refine s_load rfl rfl rfl rfl ty42 rfl (.inr rfl) (by conv => lhs; whnf) rfl rfl rfl ?_
    refine s_len (m := x4.zones.length) rfl sl42 rfl rfl rfl rfl ?_
    refine s_of (st_lss rfl rfl rfl) rfl rfl rfl rfl ?_
    refine rt_nil ?_
    refine tri_cond rfl (fun c9 => ?_) (fun c9 => ?_)
    ·refine drop_elim hd1 c9 fun e1 rs1 he hx1 hn1 => ?_
     subst he
     rw [w_FnClasses_l1] at h
     refine tri_skip ?_
     refine tri_seq ?_
     refine tri_block ?_
     refine tri_sr ?_
     refine s_fieldAddr rfl rfl fd45_0 rfl rfl rfl rfl ?_
     refine s_load rfl rfl rfl rfl ty42 rfl (.inr rfl) (by conv => lhs; whnf) rfl rfl rfl ?_
     refine m1 ?_
     refine s_index0 (i := v1_0) rfl rfl rfl rfl sl42 rfl (get_lt hx1) rfl rfl rfl ?_
     refine s_loadR rfl rfl rfl (rowG hx1) ty26 rfl rfl rfl ?_
     refine s_alloc rfl rfl rfl zc26 rfl rfl rfl rfl rfl ?_
     refine s_storeB rfl rfl rfl ty26 rfl rfl rfl rfl rfl ?_
     refine rt_nil ?_
     refine tri_seq ?_
     refine tri_sr ?_
     refine s_fieldAddr rfl rfl fd28_0 rfl rfl rfl rfl ?_
     refine s_load rfl rfl rfl rfl ty9 rfl (.inr rfl) (by conv => lhs; whnf) rfl rfl rfl ?_
     refine s_fieldAddr rfl rfl fd26_0 rfl rfl rfl rfl ?_
     refine s_load rfl rfl rfl rfl ty9 rfl (.inr rfl) (by conv => lhs; whnf) rfl rfl rfl ?_
     refine bnd1_elim h fun x10 q11 h => ?_
     refine s_callN (kb := []) (ns := []) (v := .sc (.bool x10)) rfl rfl cl17 (wi_Under x5.name e1.apex x10 q11) rfl (.cons (.free rfl) (.cons (.free rfl) .nil)) trivial memNil .nil memNil rfl trivial memNil rfl rfl rfl rfl rfl rfl ?_
     refine s_of (st_not rfl rfl) rfl rfl rfl rfl ?_
     refine rt_nil ?_
     refine tri_cond rfl (fun c12 => ?_) (fun c12 => ?_)
     ·replace h := cond_t h c12
      refine tri_exit ?_
      refine tri_region ?_
      refine m1 ?_
      refine s_inc (a := v1_0) (b := 1) rfl rfl rfl rfl (by have := get_lt hx1; have := hl1; omega) rfl rfl rfl ?_
      refine m2 ?_
      refine rt_nil ?_
      refine Exists.intro ⟨(rs1, (v1_0 + 1)), hn1, h⟩ (And.intro (Nat.lt_succ_self _) ?_)
      refine entX [((3, 0), ⟨45, 2, [[.ref (16, 100) 0 x4.zones.length, .ref (16, 101) 0 x4.posts.length]], false, true⟩, some (3, 0)), ((16, 100), ⟨26, 2, List.map mZoneV x4.zones, false, true⟩, some (16, 100)), ((16, 101), ⟨146, 2, List.map mPostV x4.posts, false, true⟩, some (16, 101)), ((4, 0), ⟨28, 2, [[.sc (.string x5.name), .sc (.int .i64 x5.ty)]], false, true⟩, some (4, 0)), ((21, 0), ⟨9, 1, List.map strV x7, false, true⟩, some (21, 0))] [] ⟨⟨rfl, _, rfl, rfl, rfl, rfl, id, rowsCv_one (.cons (.ref rfl) (.cons (.ref rfl) .nil)), rowsZ_one rfl⟩, ⟨rfl, _, rfl, rfl, rfl, rfl, id, rowsCv_eq rfl (allFree_map mZoneV_free), rowsZ_map mZoneV_len⟩, ⟨rfl, _, rfl, rfl, rfl, rfl, id, rowsCv_eq rfl (allFree_map mPostV_free), rowsZ_map mPostV_len⟩, ⟨rfl, _, rfl, rfl, rfl, rfl, id, rowsCv_one (.cons (.free rfl) (.cons (.free rfl) .nil)), rowsZ_one rfl⟩, ⟨rfl, _, rfl, rfl, rfl, rfl, id, rowsCv_eq rfl (allFree_map strV_free), rowsZ_map strV_len⟩, trivial⟩ trivial rfl rfl ?_
      exact ⟨(.ptr rfl), (.ptr rfl), (.ref rfl), (.free rfl), trivial⟩
     ·replace h := cond_f h c12
      refine tri_skip ?_
      refine tri_seq ?_
      refine tri_draw mixed ?_
      refine s_loadR rfl rfl rfl rfl ty26 rfl rfl rfl ?_
      refine s_loadR rfl rfl rfl rfl ty28 rfl rfl rfl ?_
      refine bnd1_elim h fun x13 q14 h => ?_
      refine s_callN (kb := []) (ns := []) (v := .agg [.sc (.int .i64 x13.id), .sc (.bool x13.reply), .sc (.bool x13.auth), .sc (.bool x13.cut), .sc (.bool x13.want), .sc (.bool x13.can), .sc (.int .i64 x13.code), .sc (.string x13.q.name), .sc (.int .i64 x13.q.ty), .ref (42, 9) 0 x13.an.length, .ref (42, 10) 0 x13.au.length, .ref (42, 11) 0 x13.ad.length]) rfl rfl cl25 (wi_AskMsg 9 x5 x13 q14) rfl (.cons (.free rfl) (.cons (relAgg rfl) .nil)) trivial memNil .nil memNil rfl ⟨(allSc_map recV_sc), ⟨(allSc_map recV_sc), ⟨(allSc_map recV_sc), trivial⟩⟩⟩ memNil rfl (by simp only [V.mat, V.mat1, V.mat0, matL, matT, List.length_map] <;> rfl) rfl rfl rfl rfl ?_
      refine bnd1_elim h fun x15 q16 h => ?_
      refine s_callN (kb := [(42, 9), (42, 10), (42, 11)]) (ns := []) (v := .agg [.sc (.int .i64 x15.id), .sc (.bool x15.reply), .sc (.bool x15.auth), .sc (.bool x15.cut), .sc (.bool x15.want), .sc (.bool x15.can), .sc (.int .i64 x15.code), .sc (.string x15.q.name), .sc (.int .i64 x15.q.ty), .ref (43, 9) 0 x15.an.length, .ref (43, 10) 0 x15.au.length, .ref (43, 11) 0 x15.ad.length]) rfl rfl cl24 (wi_Serve e1 x13 x15 q16) rfl (.cons (relAgg rfl) (.cons (relAggL (.cons (.free rfl) (.cons (.free rfl) (.cons (.free rfl) (.cons (.free rfl) (.cons (.free rfl) (.cons (.free rfl) (.cons (.free rfl) (.cons (.free rfl) (.cons (.free rfl) (.cons (lendL rfl (.head _) rfl recV_free recV_len) (.cons (lendL rfl (.tail _ (.head _)) rfl recV_free recV_len) (.cons (lendL rfl (.tail _ (.tail _ (.head _))) rfl recV_free recV_len) .nil))))))))))))) .nil)) trivial memNil .nil (fun _ _ => List.not_mem_nil) rfl ⟨(allSc_map recV_sc), ⟨(allSc_map recV_sc), ⟨(allSc_map recV_sc), trivial⟩⟩⟩ memNil rfl (by simp only [V.mat, V.mat1, V.mat0, matL, matT, List.length_map] <;> rfl) rfl rfl rfl rfl ?_
      refine s_alloc rfl rfl rfl zc50 rfl rfl rfl rfl rfl ?_
      refine s_storeB rfl rfl rfl ty50 rfl rfl rfl rfl rfl ?_
      refine rt_nil ⟨by kernel_rfl, ?_⟩
      refine tri_sr ?_
      refine s_loadR rfl rfl rfl rfl ty50 rfl rfl rfl ?_
      refine s_fieldAddr rfl rfl fd26_0 rfl rfl rfl rfl ?_
      refine s_load rfl rfl rfl rfl ty9 rfl (.inr rfl) (by conv => lhs; whnf) rfl rfl rfl ?_
      refine bnd1_elim h fun x17 q18 h => ?_
      refine s_callN (kb := [(43, 9), (43, 10), (43, 11)]) (ns := []) (v := .sc (.int .i64 x17)) rfl rfl cl26 (wi_ClassOf x15 e1.apex x17 q18) rfl (.cons (relAggL (.cons (.free rfl) (.cons (.free rfl) (.cons (.free rfl) (.cons (.free rfl) (.cons (.free rfl) (.cons (.free rfl) (.cons (.free rfl) (.cons (.free rfl) (.cons (.free rfl) (.cons (lendL rfl (.head _) rfl recV_free recV_len) (.cons (lendL rfl (.tail _ (.head _)) rfl recV_free recV_len) (.cons (lendL rfl (.tail _ (.tail _ (.head _))) rfl recV_free recV_len) .nil))))))))))))) (.cons (.free rfl) .nil)) trivial memNil .nil (fun _ _ => List.not_mem_nil) rfl trivial memNil rfl rfl rfl rfl rfl rfl ?_
      refine m2 ?_
      refine rt_nil ?_
      refine tri_seq ?_
      refine tri_cutI (ι := { p : Bool // w_FnClasses_j2 v1_0 e1 x15 x17 (w_FnClasses_l1 x5 x7 rs1) p = some r0 }) (fun p => inv_w_FnClasses_2 x4 x5 x7 v1_0 e1 x15 x17 p.1) ?_ ?_
      ·skip
       refine tri_region ?_
       refine m1 ?_
       refine s_of (st_eqI rfl rfl rfl) rfl rfl rfl rfl ?_
       refine m1 ?_
       refine s_split (t := 50) rfl (fun b19 => ?_) (fun b19 => ?_)
       ·replace h := cond_t h b19
        refine s_skip rfl rfl rfl ?_
        refine s_skip rfl rfl rfl ?_
        refine s_skip rfl rfl rfl ?_
        refine s_skip rfl rfl rfl ?_
        refine s_skip rfl rfl rfl ?_
        refine s_skip rfl rfl rfl ?_
        refine s_skip rfl rfl rfl ?_
        refine s_pickT rfl rfl (v := .sc (.bool true)) rfl rfl rfl rfl ?_
        refine m1 ?_
        refine s_skip rfl rfl rfl ?_
        refine s_skip rfl rfl rfl ?_
        refine s_skip rfl rfl rfl ?_
        refine s_skip rfl rfl rfl ?_
        refine s_skip rfl rfl rfl ?_
        refine s_pickT rfl rfl (v := .sc (.bool true)) rfl rfl rfl rfl ?_
        refine rt_nil ?_
        refine Exists.intro ⟨true, h⟩ ?_
        refine entX [((3, 0), ⟨45, 2, [[.ref (16, 100) 0 x4.zones.length, .ref (16, 101) 0 x4.posts.length]], false, true⟩, some (3, 0)), ((16, 100), ⟨26, 2, List.map mZoneV x4.zones, false, true⟩, some (16, 100)), ((16, 101), ⟨146, 2, List.map mPostV x4.posts, false, true⟩, some (16, 101)), ((4, 0), ⟨28, 2, [[.sc (.string x5.name), .sc (.int .i64 x5.ty)]], false, true⟩, some (4, 0)), ((21, 0), ⟨9, 1, List.map strV x7, false, true⟩, some (21, 0)), ((7, 0), ⟨26, 2, [[.sc (.string e1.apex), .lst 6 (List.map recV e1.l)]], false, true⟩, some (7, 0)), ((8, 0), ⟨50, 12, [[.sc (.int .i64 x15.id), .sc (.bool x15.reply), .sc (.bool x15.auth), .sc (.bool x15.cut), .sc (.bool x15.want), .sc (.bool x15.can), .sc (.int .i64 x15.code), .sc (.string x15.q.name), .sc (.int .i64 x15.q.ty), .ref (43, 9) 0 x15.an.length, .ref (43, 10) 0 x15.au.length, .ref (43, 11) 0 x15.ad.length]], false, true⟩, some (8, 0)), ((43, 9), ⟨39, 6, List.map recV x15.an, false, true⟩, some (43, 9)), ((43, 10), ⟨39, 6, List.map recV x15.au, false, true⟩, some (43, 10)), ((43, 11), ⟨39, 6, List.map recV x15.ad, false, true⟩, some (43, 11))] [] ⟨⟨rfl, _, rfl, rfl, rfl, rfl, id, rowsCv_one (.cons (.ref rfl) (.cons (.ref rfl) .nil)), rowsZ_one rfl⟩, ⟨rfl, _, rfl, rfl, rfl, rfl, id, rowsCv_eq rfl (allFree_map mZoneV_free), rowsZ_map mZoneV_len⟩, ⟨rfl, _, rfl, rfl, rfl, rfl, id, rowsCv_eq rfl (allFree_map mPostV_free), rowsZ_map mPostV_len⟩, ⟨rfl, _, rfl, rfl, rfl, rfl, id, rowsCv_one (.cons (.free rfl) (.cons (.free rfl) .nil)), rowsZ_one rfl⟩, ⟨rfl, _, rfl, rfl, rfl, rfl, id, rowsCv_eq rfl (allFree_map strV_free), rowsZ_map strV_len⟩, ⟨rfl, _, rfl, rfl, rfl, rfl, id, rowsCv_one (.cons (.free rfl) (.cons (.free rfl) .nil)), rowsZ_one rfl⟩, ⟨rfl, _, rfl, rfl, rfl, rfl, id, rowsCv_one (.cons (.free rfl) (.cons (.free rfl) (.cons (.free rfl) (.cons (.free rfl) (.cons (.free rfl) (.cons (.free rfl) (.cons (.free rfl) (.cons (.free rfl) (.cons (.free rfl) (.cons (.ref rfl) (.cons (.ref rfl) (.cons (.ref rfl) .nil)))))))))))), rowsZ_one rfl⟩, ⟨rfl, _, rfl, rfl, rfl, rfl, id, rowsCv_eq rfl (allFree_map recV_free), rowsZ_map recV_len⟩, ⟨rfl, _, rfl, rfl, rfl, rfl, id, rowsCv_eq rfl (allFree_map recV_free), rowsZ_map recV_len⟩, ⟨rfl, _, rfl, rfl, rfl, rfl, id, rowsCv_eq rfl (allFree_map recV_free), rowsZ_map recV_len⟩, trivial⟩ trivial rfl rfl ?_
        exact ⟨(.ptr rfl), (.ptr rfl), (.ref rfl), (.free rfl), (.ptr rfl), (.ptr rfl), (.free rfl), (.free rfl), trivial⟩
       ·replace h := cond_f h b19
        refine m1 ?_
        refine s_of (st_eqI rfl rfl rfl) rfl rfl rfl rfl ?_
        refine s_loadR rfl rfl rfl rfl ty26 rfl rfl rfl ?_
        refine s_loadR rfl rfl rfl rfl ty28 rfl rfl rfl ?_
        refine bnd1_elim h fun x20 q21 h => ?_
        refine s_callN (kb := []) (ns := []) (v := .sc (.int .i64 x20)) rfl rfl cl27 (wi_KindIn e1 x5 x20 q21) rfl (.cons (relAgg rfl) (.cons (relAgg rfl) .nil)) trivial memNil .nil memNil rfl trivial memNil rfl rfl rfl rfl rfl rfl ?_
        refine s_of (st_eqI rfl rfl rfl) rfl rfl rfl rfl ?_
        refine s_of (st_neB isb4 rfl rfl rfl) rfl rfl rfl rfl ?_
        refine s_pickF rfl rfl (by conv => lhs; whnf) rfl rfl rfl ?_
        refine m1 ?_
        refine s_split (t := 59) rfl (fun b22 => ?_) (fun b22 => ?_)
        ·replace h := cond_t h b22
         refine s_skip rfl rfl rfl ?_
         refine s_skip rfl rfl rfl ?_
         refine s_skip rfl rfl rfl ?_
         refine s_skip rfl rfl rfl ?_
         refine s_skip rfl rfl rfl ?_
         refine s_pickT rfl rfl (v := .sc (.bool true)) rfl rfl rfl rfl ?_
         refine rt_nil ?_
         refine Exists.intro ⟨true, h⟩ ?_
         refine entX [((3, 0), ⟨45, 2, [[.ref (16, 100) 0 x4.zones.length, .ref (16, 101) 0 x4.posts.length]], false, true⟩, some (3, 0)), ((16, 100), ⟨26, 2, List.map mZoneV x4.zones, false, true⟩, some (16, 100)), ((16, 101), ⟨146, 2, List.map mPostV x4.posts, false, true⟩, some (16, 101)), ((4, 0), ⟨28, 2, [[.sc (.string x5.name), .sc (.int .i64 x5.ty)]], false, true⟩, some (4, 0)), ((21, 0), ⟨9, 1, List.map strV x7, false, true⟩, some (21, 0)), ((7, 0), ⟨26, 2, [[.sc (.string e1.apex), .lst 6 (List.map recV e1.l)]], false, true⟩, some (7, 0)), ((8, 0), ⟨50, 12, [[.sc (.int .i64 x15.id), .sc (.bool x15.reply), .sc (.bool x15.auth), .sc (.bool x15.cut), .sc (.bool x15.want), .sc (.bool x15.can), .sc (.int .i64 x15.code), .sc (.string x15.q.name), .sc (.int .i64 x15.q.ty), .ref (43, 9) 0 x15.an.length, .ref (43, 10) 0 x15.au.length, .ref (43, 11) 0 x15.ad.length]], false, true⟩, some (8, 0)), ((43, 9), ⟨39, 6, List.map recV x15.an, false, true⟩, some (43, 9)), ((43, 10), ⟨39, 6, List.map recV x15.au, false, true⟩, some (43, 10)), ((43, 11), ⟨39, 6, List.map recV x15.ad, false, true⟩, some (43, 11))] [] ⟨⟨rfl, _, rfl, rfl, rfl, rfl, id, rowsCv_one (.cons (.ref rfl) (.cons (.ref rfl) .nil)), rowsZ_one rfl⟩, ⟨rfl, _, rfl, rfl, rfl, rfl, id, rowsCv_eq rfl (allFree_map mZoneV_free), rowsZ_map mZoneV_len⟩, ⟨rfl, _, rfl, rfl, rfl, rfl, id, rowsCv_eq rfl (allFree_map mPostV_free), rowsZ_map mPostV_len⟩, ⟨rfl, _, rfl, rfl, rfl, rfl, id, rowsCv_one (.cons (.free rfl) (.cons (.free rfl) .nil)), rowsZ_one rfl⟩, ⟨rfl, _, rfl, rfl, rfl, rfl, id, rowsCv_eq rfl (allFree_map strV_free), rowsZ_map strV_len⟩, ⟨rfl, _, rfl, rfl, rfl, rfl, id, rowsCv_one (.cons (.free rfl) (.cons (.free rfl) .nil)), rowsZ_one rfl⟩, ⟨rfl, _, rfl, rfl, rfl, rfl, id, rowsCv_one (.cons (.free rfl) (.cons (.free rfl) (.cons (.free rfl) (.cons (.free rfl) (.cons (.free rfl) (.cons (.free rfl) (.cons (.free rfl) (.cons (.free rfl) (.cons (.free rfl) (.cons (.ref rfl) (.cons (.ref rfl) (.cons (.ref rfl) .nil)))))))))))), rowsZ_one rfl⟩, ⟨rfl, _, rfl, rfl, rfl, rfl, id, rowsCv_eq rfl (allFree_map recV_free), rowsZ_map recV_len⟩, ⟨rfl, _, rfl, rfl, rfl, rfl, id, rowsCv_eq rfl (allFree_map recV_free), rowsZ_map recV_len⟩, ⟨rfl, _, rfl, rfl, rfl, rfl, id, rowsCv_eq rfl (allFree_map recV_free), rowsZ_map recV_len⟩, trivial⟩ trivial rfl rfl ?_
         exact ⟨(.ptr rfl), (.ptr rfl), (.ref rfl), (.free rfl), (.ptr rfl), (.ptr rfl), (.free rfl), (.free rfl), trivial⟩
        ·replace h := cond_f h b22
         refine m1 ?_
         refine s_loadR rfl rfl rfl rfl ty26 rfl rfl rfl ?_
         refine s_loadR rfl rfl rfl rfl ty28 rfl rfl rfl ?_
         refine bnd1_elim h fun x23 q24 h => ?_
         refine s_callN (kb := []) (ns := []) (v := .sc (.int .i64 x23)) rfl rfl cl27 (wi_KindIn e1 x5 x23 q24) rfl (.cons (relAgg rfl) (.cons (relAgg rfl) .nil)) trivial memNil .nil memNil rfl trivial memNil rfl rfl rfl rfl rfl rfl ?_
         refine s_of (st_neI rfl rfl rfl) rfl rfl rfl rfl ?_
         refine s_pickF rfl rfl (by conv => lhs; whnf) rfl rfl rfl ?_
         refine rt_nil ?_
         refine Exists.intro ⟨!decide (x17 = x23), h⟩ ?_
         refine entX [((3, 0), ⟨45, 2, [[.ref (16, 100) 0 x4.zones.length, .ref (16, 101) 0 x4.posts.length]], false, true⟩, some (3, 0)), ((16, 100), ⟨26, 2, List.map mZoneV x4.zones, false, true⟩, some (16, 100)), ((16, 101), ⟨146, 2, List.map mPostV x4.posts, false, true⟩, some (16, 101)), ((4, 0), ⟨28, 2, [[.sc (.string x5.name), .sc (.int .i64 x5.ty)]], false, true⟩, some (4, 0)), ((21, 0), ⟨9, 1, List.map strV x7, false, true⟩, some (21, 0)), ((7, 0), ⟨26, 2, [[.sc (.string e1.apex), .lst 6 (List.map recV e1.l)]], false, true⟩, some (7, 0)), ((8, 0), ⟨50, 12, [[.sc (.int .i64 x15.id), .sc (.bool x15.reply), .sc (.bool x15.auth), .sc (.bool x15.cut), .sc (.bool x15.want), .sc (.bool x15.can), .sc (.int .i64 x15.code), .sc (.string x15.q.name), .sc (.int .i64 x15.q.ty), .ref (43, 9) 0 x15.an.length, .ref (43, 10) 0 x15.au.length, .ref (43, 11) 0 x15.ad.length]], false, true⟩, some (8, 0)), ((43, 9), ⟨39, 6, List.map recV x15.an, false, true⟩, some (43, 9)), ((43, 10), ⟨39, 6, List.map recV x15.au, false, true⟩, some (43, 10)), ((43, 11), ⟨39, 6, List.map recV x15.ad, false, true⟩, some (43, 11))] [] ⟨⟨rfl, _, rfl, rfl, rfl, rfl, id, rowsCv_one (.cons (.ref rfl) (.cons (.ref rfl) .nil)), rowsZ_one rfl⟩, ⟨rfl, _, rfl, rfl, rfl, rfl, id, rowsCv_eq rfl (allFree_map mZoneV_free), rowsZ_map mZoneV_len⟩, ⟨rfl, _, rfl, rfl, rfl, rfl, id, rowsCv_eq rfl (allFree_map mPostV_free), rowsZ_map mPostV_len⟩, ⟨rfl, _, rfl, rfl, rfl, rfl, id, rowsCv_one (.cons (.free rfl) (.cons (.free rfl) .nil)), rowsZ_one rfl⟩, ⟨rfl, _, rfl, rfl, rfl, rfl, id, rowsCv_eq rfl (allFree_map strV_free), rowsZ_map strV_len⟩, ⟨rfl, _, rfl, rfl, rfl, rfl, id, rowsCv_one (.cons (.free rfl) (.cons (.free rfl) .nil)), rowsZ_one rfl⟩, ⟨rfl, _, rfl, rfl, rfl, rfl, id, rowsCv_one (.cons (.free rfl) (.cons (.free rfl) (.cons (.free rfl) (.cons (.free rfl) (.cons (.free rfl) (.cons (.free rfl) (.cons (.free rfl) (.cons (.free rfl) (.cons (.free rfl) (.cons (.ref rfl) (.cons (.ref rfl) (.cons (.ref rfl) .nil)))))))))))), rowsZ_one rfl⟩, ⟨rfl, _, rfl, rfl, rfl, rfl, id, rowsCv_eq rfl (allFree_map recV_free), rowsZ_map recV_len⟩, ⟨rfl, _, rfl, rfl, rfl, rfl, id, rowsCv_eq rfl (allFree_map recV_free), rowsZ_map recV_len⟩, ⟨rfl, _, rfl, rfl, rfl, rfl, id, rowsCv_eq rfl (allFree_map recV_free), rowsZ_map recV_len⟩, trivial⟩ trivial rfl rfl ?_
         exact ⟨(.ptr rfl), (.ptr rfl), (.ref rfl), (.free rfl), (.ptr rfl), (.ptr rfl), (.free rfl), (.free rfl), trivial⟩
      ·rintro ⟨j2_0, h⟩
       replace h : w_FnClasses_j2 v1_0 e1 x15 x17 (w_FnClasses_l1 x5 x7 rs1) j2_0 = some r0 := h
       unfold w_FnClasses_j2 at h
       show Tri _ _ _ (inv_w_FnClasses_2 x4 x5 x7 v1_0 e1 x15 x17 j2_0)
       refine tri_cond rfl (fun c19 => ?_) (fun c19 => ?_)
       ·replace h := cond_t h c19
        refine tri_sr ?_
        refine s_mv (.inr rfl) (v := .sc (.bool false)) rfl rfl rfl rfl ?_
        refine rt_nil ?_
        refine tri_ret ?_
        have e0 := (some1 h); subst e0
        exact endY [] [] (rvC (resTmp rfl) rvN) trivial trivial rfl rfl rfl rfl (.free rfl)
       ·replace h := cond_f h c19
        refine tri_skip ?_
        refine tri_sr ?_
        refine m1 ?_
        refine s_of (st_eqI rfl rfl rfl) rfl rfl rfl rfl ?_
        refine rt_nil ?_
        refine tri_cond rfl (fun c20 => ?_) (fun c20 => ?_)
        ·replace h := cond_t h c20
         refine tri_sr ?_
         refine s_loadR rfl rfl rfl rfl ty50 rfl rfl rfl ?_
         refine s_fieldAddr rfl rfl fd26_0 rfl rfl rfl rfl ?_
         refine s_load rfl rfl rfl rfl ty9 rfl (.inr rfl) (by conv => lhs; whnf) rfl rfl rfl ?_
         refine bnd2_elim h fun x21 x22 q23 h => ?_
         refine s_callN (kb := [(43, 9), (43, 10), (43, 11)]) (ns := []) (v := .tup [.sc (.string x21), .sc (.bool x22)]) rfl rfl cl28 (wi_DownIn x15 e1.apex x21 x22 q23) rfl (.cons (relAggL (.cons (.free rfl) (.cons (.free rfl) (.cons (.free rfl) (.cons (.free rfl) (.cons (.free rfl) (.cons (.free rfl) (.cons (.free rfl) (.cons (.free rfl) (.cons (.free rfl) (.cons (lendL rfl (.head _) rfl recV_free recV_len) (.cons (lendL rfl (.tail _ (.head _)) rfl recV_free recV_len) (.cons (lendL rfl (.tail _ (.tail _ (.head _))) rfl recV_free recV_len) .nil))))))))))))) (.cons (.free rfl) .nil)) trivial memNil .nil (fun _ _ => List.not_mem_nil) rfl trivial memNil rfl rfl rfl rfl rfl rfl ?_
         refine m1 ?_
         refine s_extract rfl rfl rfl rfl rfl rfl ?_
         refine s_extract rfl rfl rfl rfl rfl rfl ?_
         refine m2 ?_
         refine m2 ?_
         refine rt_nil ?_
         refine tri_cutI (ι := { p : Bool // w_FnClasses_j3 v1_0 (w_FnClasses_l1 x5 x7 rs1) p = some r0 }) (fun p => inv_w_FnClasses_3 x4 x5 x7 v1_0 p.1) ?_ ?_
         ·skip
          refine tri_region ?_
          refine m1 ?_
          refine s_of (st_not rfl rfl) rfl rfl rfl rfl ?_
          refine m1 ?_
          refine s_split (t := 77) rfl (fun b24 => ?_) (fun b24 => ?_)
          ·replace h := cond_t h b24
           refine s_skip rfl rfl rfl ?_
           refine s_skip rfl rfl rfl ?_
           refine s_skip rfl rfl rfl ?_
           refine s_skip rfl rfl rfl ?_
           refine s_skip rfl rfl rfl ?_
           refine s_pickT rfl rfl (v := .sc (.bool true)) rfl rfl rfl rfl ?_
           refine m1 ?_
           refine s_skip rfl rfl rfl ?_
           refine s_skip rfl rfl rfl ?_
           refine s_skip rfl rfl rfl ?_
           refine s_skip rfl rfl rfl ?_
           refine s_skip rfl rfl rfl ?_
           refine s_skip rfl rfl rfl ?_
           refine s_pickT rfl rfl (v := .sc (.bool true)) rfl rfl rfl rfl ?_
           refine rt_nil ?_
           refine Exists.intro ⟨true, h⟩ ?_
           refine entX [((3, 0), ⟨45, 2, [[.ref (16, 100) 0 x4.zones.length, .ref (16, 101) 0 x4.posts.length]], false, true⟩, some (3, 0)), ((16, 100), ⟨26, 2, List.map mZoneV x4.zones, false, true⟩, some (16, 100)), ((16, 101), ⟨146, 2, List.map mPostV x4.posts, false, true⟩, some (16, 101)), ((4, 0), ⟨28, 2, [[.sc (.string x5.name), .sc (.int .i64 x5.ty)]], false, true⟩, some (4, 0)), ((21, 0), ⟨9, 1, List.map strV x7, false, true⟩, some (21, 0))] [] ⟨⟨rfl, _, rfl, rfl, rfl, rfl, id, rowsCv_one (.cons (.ref rfl) (.cons (.ref rfl) .nil)), rowsZ_one rfl⟩, ⟨rfl, _, rfl, rfl, rfl, rfl, id, rowsCv_eq rfl (allFree_map mZoneV_free), rowsZ_map mZoneV_len⟩, ⟨rfl, _, rfl, rfl, rfl, rfl, id, rowsCv_eq rfl (allFree_map mPostV_free), rowsZ_map mPostV_len⟩, ⟨rfl, _, rfl, rfl, rfl, rfl, id, rowsCv_one (.cons (.free rfl) (.cons (.free rfl) .nil)), rowsZ_one rfl⟩, ⟨rfl, _, rfl, rfl, rfl, rfl, id, rowsCv_eq rfl (allFree_map strV_free), rowsZ_map strV_len⟩, trivial⟩ trivial rfl rfl ?_
           exact ⟨(.ptr rfl), (.ptr rfl), (.ref rfl), (.free rfl), (.free rfl), trivial⟩
          ·replace h := cond_f h b24
           refine m1 ?_
           refine s_fieldAddr rfl rfl fd26_0 rfl rfl rfl rfl ?_
           refine s_load rfl rfl rfl rfl ty9 rfl (.inr rfl) (by conv => lhs; whnf) rfl rfl rfl ?_
           refine bnd1_elim h fun x25 q26 h => ?_
           refine s_callN (kb := []) (ns := []) (v := .sc (.bool x25)) rfl rfl cl17 (wi_Under x21 e1.apex x25 q26) rfl (.cons (.free rfl) (.cons (.free rfl) .nil)) trivial memNil .nil memNil rfl trivial memNil rfl rfl rfl rfl rfl rfl ?_
           refine s_of (st_not rfl rfl) rfl rfl rfl rfl ?_
           refine s_pickF rfl rfl (by conv => lhs; whnf) rfl rfl rfl ?_
           refine m1 ?_
           refine s_split (t := 84) rfl (fun b27 => ?_) (fun b27 => ?_)
           ·replace h := cond_t h b27
            refine s_skip rfl rfl rfl ?_
            refine s_skip rfl rfl rfl ?_
            refine s_skip rfl rfl rfl ?_
            refine s_skip rfl rfl rfl ?_
            refine s_skip rfl rfl rfl ?_
            refine s_skip rfl rfl rfl ?_
            refine s_pickT rfl rfl (v := .sc (.bool true)) rfl rfl rfl rfl ?_
            refine rt_nil ?_
            refine Exists.intro ⟨true, h⟩ ?_
            refine entX [((3, 0), ⟨45, 2, [[.ref (16, 100) 0 x4.zones.length, .ref (16, 101) 0 x4.posts.length]], false, true⟩, some (3, 0)), ((16, 100), ⟨26, 2, List.map mZoneV x4.zones, false, true⟩, some (16, 100)), ((16, 101), ⟨146, 2, List.map mPostV x4.posts, false, true⟩, some (16, 101)), ((4, 0), ⟨28, 2, [[.sc (.string x5.name), .sc (.int .i64 x5.ty)]], false, true⟩, some (4, 0)), ((21, 0), ⟨9, 1, List.map strV x7, false, true⟩, some (21, 0))] [] ⟨⟨rfl, _, rfl, rfl, rfl, rfl, id, rowsCv_one (.cons (.ref rfl) (.cons (.ref rfl) .nil)), rowsZ_one rfl⟩, ⟨rfl, _, rfl, rfl, rfl, rfl, id, rowsCv_eq rfl (allFree_map mZoneV_free), rowsZ_map mZoneV_len⟩, ⟨rfl, _, rfl, rfl, rfl, rfl, id, rowsCv_eq rfl (allFree_map mPostV_free), rowsZ_map mPostV_len⟩, ⟨rfl, _, rfl, rfl, rfl, rfl, id, rowsCv_one (.cons (.free rfl) (.cons (.free rfl) .nil)), rowsZ_one rfl⟩, ⟨rfl, _, rfl, rfl, rfl, rfl, id, rowsCv_eq rfl (allFree_map strV_free), rowsZ_map strV_len⟩, trivial⟩ trivial rfl rfl ?_
            exact ⟨(.ptr rfl), (.ptr rfl), (.ref rfl), (.free rfl), (.free rfl), trivial⟩
           ·replace h := cond_f h b27
            refine s_loadR rfl rfl rfl rfl ty50 rfl rfl rfl ?_
            refine s_fieldAddr rfl rfl fd26_0 rfl rfl rfl rfl ?_
            refine s_load rfl rfl rfl rfl ty9 rfl (.inr rfl) (by conv => lhs; whnf) rfl rfl rfl ?_
            refine bnd1_elim h fun x28 q29 h => ?_
            refine s_callN (kb := [(43, 9), (43, 10), (43, 11)]) (ns := []) (v := .ref (88, 0) 0 x28.length) rfl rfl cl29 (wi_ServersIn x15 e1.apex x28 q29) rfl (.cons (relAggL (.cons (.free rfl) (.cons (.free rfl) (.cons (.free rfl) (.cons (.free rfl) (.cons (.free rfl) (.cons (.free rfl) (.cons (.free rfl) (.cons (.free rfl) (.cons (.free rfl) (.cons (lendL rfl (.head _) rfl recV_free recV_len) (.cons (lendL rfl (.tail _ (.head _)) rfl recV_free recV_len) (.cons (lendL rfl (.tail _ (.tail _ (.head _))) rfl recV_free recV_len) .nil))))))))))))) (.cons (.free rfl) .nil)) trivial memNil .nil (fun _ _ => List.not_mem_nil) rfl ⟨(allSc_map recV_sc), trivial⟩ memNil rfl (by simp only [V.mat, V.mat1, V.mat0, matL, matT, List.length_map] <;> rfl) rfl rfl rfl rfl ?_
            refine s_len (m := x28.length) rfl sl24 rfl rfl rfl rfl ?_
            refine s_of (st_eqI rfl rfl rfl) rfl rfl rfl rfl ?_
            refine s_pickF rfl rfl (by conv => lhs; whnf) rfl rfl rfl ?_
            refine rt_nil ?_
            refine Exists.intro ⟨decide ((x28.length : Int) = 0), h⟩ ?_
            refine entX [((3, 0), ⟨45, 2, [[.ref (16, 100) 0 x4.zones.length, .ref (16, 101) 0 x4.posts.length]], false, true⟩, some (3, 0)), ((16, 100), ⟨26, 2, List.map mZoneV x4.zones, false, true⟩, some (16, 100)), ((16, 101), ⟨146, 2, List.map mPostV x4.posts, false, true⟩, some (16, 101)), ((4, 0), ⟨28, 2, [[.sc (.string x5.name), .sc (.int .i64 x5.ty)]], false, true⟩, some (4, 0)), ((21, 0), ⟨9, 1, List.map strV x7, false, true⟩, some (21, 0))] [] ⟨⟨rfl, _, rfl, rfl, rfl, rfl, id, rowsCv_one (.cons (.ref rfl) (.cons (.ref rfl) .nil)), rowsZ_one rfl⟩, ⟨rfl, _, rfl, rfl, rfl, rfl, id, rowsCv_eq rfl (allFree_map mZoneV_free), rowsZ_map mZoneV_len⟩, ⟨rfl, _, rfl, rfl, rfl, rfl, id, rowsCv_eq rfl (allFree_map mPostV_free), rowsZ_map mPostV_len⟩, ⟨rfl, _, rfl, rfl, rfl, rfl, id, rowsCv_one (.cons (.free rfl) (.cons (.free rfl) .nil)), rowsZ_one rfl⟩, ⟨rfl, _, rfl, rfl, rfl, rfl, id, rowsCv_eq rfl (allFree_map strV_free), rowsZ_map strV_len⟩, trivial⟩ trivial rfl rfl ?_
            exact ⟨(.ptr rfl), (.ptr rfl), (.ref rfl), (.free rfl), (.free rfl), trivial⟩
         ·rintro ⟨j3_0, h⟩
          replace h : w_FnClasses_j3 v1_0 (w_FnClasses_l1 x5 x7 rs1) j3_0 = some r0 := h
          unfold w_FnClasses_j3 at h
          show Tri _ _ _ (inv_w_FnClasses_3 x4 x5 x7 v1_0 j3_0)
          refine tri_cond rfl (fun c24 => ?_) (fun c24 => ?_)
          ·replace h := cond_t h c24
           refine tri_sr ?_
           refine s_mv (.inr rfl) (v := .sc (.bool false)) rfl rfl rfl rfl ?_
           refine rt_nil ?_
           refine tri_ret ?_
           have e0 := (some1 h); subst e0
           exact endY [] [] (rvC (resTmp rfl) rvN) trivial trivial rfl rfl rfl rfl (.free rfl)
          ·replace h := cond_f h c24
           refine tri_skip ?_
           refine tri_region ?_
           refine m1 ?_
           refine s_inc (a := v1_0) (b := 1) rfl rfl rfl rfl (by have := get_lt hx1; have := hl1; omega) rfl rfl rfl ?_
           refine m2 ?_
           refine rt_nil ?_
           refine Exists.intro ⟨(rs1, (v1_0 + 1)), hn1, h⟩ (And.intro (Nat.lt_succ_self _) ?_)
           refine entX [((3, 0), ⟨45, 2, [[.ref (16, 100) 0 x4.zones.length, .ref (16, 101) 0 x4.posts.length]], false, true⟩, some (3, 0)), ((16, 100), ⟨26, 2, List.map mZoneV x4.zones, false, true⟩, some (16, 100)), ((16, 101), ⟨146, 2, List.map mPostV x4.posts, false, true⟩, some (16, 101)), ((4, 0), ⟨28, 2, [[.sc (.string x5.name), .sc (.int .i64 x5.ty)]], false, true⟩, some (4, 0)), ((21, 0), ⟨9, 1, List.map strV x7, false, true⟩, some (21, 0))] [] ⟨⟨rfl, _, rfl, rfl, rfl, rfl, id, rowsCv_one (.cons (.ref rfl) (.cons (.ref rfl) .nil)), rowsZ_one rfl⟩, ⟨rfl, _, rfl, rfl, rfl, rfl, id, rowsCv_eq rfl (allFree_map mZoneV_free), rowsZ_map mZoneV_len⟩, ⟨rfl, _, rfl, rfl, rfl, rfl, id, rowsCv_eq rfl (allFree_map mPostV_free), rowsZ_map mPostV_len⟩, ⟨rfl, _, rfl, rfl, rfl, rfl, id, rowsCv_one (.cons (.free rfl) (.cons (.free rfl) .nil)), rowsZ_one rfl⟩, ⟨rfl, _, rfl, rfl, rfl, rfl, id, rowsCv_eq rfl (allFree_map strV_free), rowsZ_map strV_len⟩, trivial⟩ trivial rfl rfl ?_
           exact ⟨(.ptr rfl), (.ptr rfl), (.ref rfl), (.free rfl), trivial⟩
        ·replace h := cond_f h c20
         refine tri_skip ?_
         refine tri_region ?_
         refine m1 ?_
         refine s_inc (a := v1_0) (b := 1) rfl rfl rfl rfl (by have := get_lt hx1; have := hl1; omega) rfl rfl rfl ?_
         refine m2 ?_
         refine rt_nil ?_
         refine Exists.intro ⟨(rs1, (v1_0 + 1)), hn1, h⟩ (And.intro (Nat.lt_succ_self _) ?_)
         refine entX [((3, 0), ⟨45, 2, [[.ref (16, 100) 0 x4.zones.length, .ref (16, 101) 0 x4.posts.length]], false, true⟩, some (3, 0)), ((16, 100), ⟨26, 2, List.map mZoneV x4.zones, false, true⟩, some (16, 100)), ((16, 101), ⟨146, 2, List.map mPostV x4.posts, false, true⟩, some (16, 101)), ((4, 0), ⟨28, 2, [[.sc (.string x5.name), .sc (.int .i64 x5.ty)]], false, true⟩, some (4, 0)), ((21, 0), ⟨9, 1, List.map strV x7, false, true⟩, some (21, 0))] [] ⟨⟨rfl, _, rfl, rfl, rfl, rfl, id, rowsCv_one (.cons (.ref rfl) (.cons (.ref rfl) .nil)), rowsZ_one rfl⟩, ⟨rfl, _, rfl, rfl, rfl, rfl, id, rowsCv_eq rfl (allFree_map mZoneV_free), rowsZ_map mZoneV_len⟩, ⟨rfl, _, rfl, rfl, rfl, rfl, id, rowsCv_eq rfl (allFree_map mPostV_free), rowsZ_map mPostV_len⟩, ⟨rfl, _, rfl, rfl, rfl, rfl, id, rowsCv_one (.cons (.free rfl) (.cons (.free rfl) .nil)), rowsZ_one rfl⟩, ⟨rfl, _, rfl, rfl, rfl, rfl, id, rowsCv_eq rfl (allFree_map strV_free), rowsZ_map strV_len⟩, trivial⟩ trivial rfl rfl ?_
         exact ⟨(.ptr rfl), (.ptr rfl), (.ref rfl), (.free rfl), trivial⟩
    ·have he := drop_f hd1 c9; subst he
     rw [w_FnClasses_l1] at h
     refine tri_exit ?_
     refine Exists.intro ⟨(), h⟩ ?_
     refine entX [((21, 0), ⟨9, 1, List.map strV x7, false, true⟩, some (21, 0))] [] ⟨⟨rfl, _, rfl, rfl, rfl, rfl, id, rowsCv_eq rfl (allFree_map strV_free), rowsZ_map strV_len⟩, trivial⟩ trivial rfl rfl ?_
     exact ⟨(.ref rfl), trivial⟩
  ·rintro ⟨u, h⟩
   replace h : w_FnClasses_j0 x7 = some r0 := h
   unfold w_FnClasses_j0 at h
   show Tri _ _ _ (inv_w_FnClasses_0 x7)
   refine tri_sr ?_
   refine m1 ?_
   refine s_len (m := x7.length) rfl sl33 rfl rfl rfl rfl ?_
   refine s_of (st_gtr rfl rfl rfl) rfl rfl rfl rfl ?_
   refine m2 ?_
   refine rt_nil ?_
   refine tri_ret ?_
   have e0 := (some1 h); subst e0
   exact endY [] [] (rvC (resTmp rfl) rvN) trivial trivial rfl rfl rfl rfl (.free rfl)

end Go.Abs.M
