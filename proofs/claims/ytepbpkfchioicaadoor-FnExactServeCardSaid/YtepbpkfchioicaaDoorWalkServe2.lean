/- Walks of the functions that the law of Serve reaches: what each of them computes, where its pure function does not fail. -/
import Derived.Test.YtepbpkfchioicaaDoorWalkServe1
namespace Go.Abs.M
open Go Go.Abs Go.Proofs
theorem cl20 : callable Tryd.prog 20 = true := by kernel_rfl
theorem cl23 : callable Tryd.prog 23 = true := by kernel_rfl
theorem cl26 : callable Tryd.prog 26 = true := by kernel_rfl
theorem cl32 : callable Tryd.prog 32 = true := by kernel_rfl
theorem cl51 : callable Tryd.prog 51 = true := by kernel_rfl
theorem cl52 : callable Tryd.prog 52 = true := by kernel_rfl
theorem cl53 : callable Tryd.prog 53 = true := by kernel_rfl
theorem cl54 : callable Tryd.prog 54 = true := by kernel_rfl
theorem cl55 : callable Tryd.prog 55 = true := by kernel_rfl
theorem cl56 : callable Tryd.prog 56 = true := by kernel_rfl
theorem cl57 : callable Tryd.prog 57 = true := by kernel_rfl
theorem ty37 : tyK Tryd.prog 37 = some (true, 2) := by kernel_rfl
theorem ty69 : tyK Tryd.prog 69 = some (true, 12) := by kernel_rfl
/- laws.FnExactServe -/
def inv_w_FnExactServe_0 (p0 : MZone) (p1 : MMsg) (x11 : MMsg) (x17 : MMsg) (j0_0 : Bool) : St := mkT 92 [(2, .ptr (2, 0) 0 0), (3, .ptr (3, 0) 0 0), (6, .ptr (6, 0) 0 0), (9, .ptr (9, 0) 0 0), (63, .sc (.bool j0_0))] [((2, 0), some ⟨37, 2, [[.sc (.string p0.apex), .lst 6 (List.map recV p0.l)]], false, true⟩), ((3, 0), some ⟨69, 12, [[.sc (.int .i64 p1.id), .sc (.bool p1.reply), .sc (.bool p1.auth), .sc (.bool p1.cut), .sc (.bool p1.want), .sc (.bool p1.can), .sc (.int .i64 p1.code), .sc (.string p1.q.name), .sc (.int .i64 p1.q.ty), .lst 6 (List.map recV p1.an), .lst 6 (List.map recV p1.au), .lst 6 (List.map recV p1.ad)]], false, true⟩), ((6, 0), some ⟨72, 12, [[.sc (.int .i64 x11.id), .sc (.bool x11.reply), .sc (.bool x11.auth), .sc (.bool x11.cut), .sc (.bool x11.want), .sc (.bool x11.can), .sc (.int .i64 x11.code), .sc (.string x11.q.name), .sc (.int .i64 x11.q.ty), .ref (28, 9) 0 x11.an.length, .ref (28, 10) 0 x11.au.length, .ref (28, 11) 0 x11.ad.length]], false, true⟩), ((28, 9), some ⟨105, 6, List.map recV x11.an, false, true⟩), ((28, 10), some ⟨105, 6, List.map recV x11.au, false, true⟩), ((28, 11), some ⟨105, 6, List.map recV x11.ad, false, true⟩), ((9, 0), some ⟨72, 12, [[.sc (.int .i64 x17.id), .sc (.bool x17.reply), .sc (.bool x17.auth), .sc (.bool x17.cut), .sc (.bool x17.want), .sc (.bool x17.can), .sc (.int .i64 x17.code), .sc (.string x17.q.name), .sc (.int .i64 x17.q.ty), .ref (35, 9) 0 x17.an.length, .ref (35, 10) 0 x17.au.length, .ref (35, 11) 0 x17.ad.length]], false, true⟩), ((35, 9), some ⟨105, 6, List.map recV x17.an, false, true⟩), ((35, 10), some ⟨105, 6, List.map recV x17.au, false, true⟩), ((35, 11), some ⟨105, 6, List.map recV x17.ad, false, true⟩)]
set_option maxRecDepth 4000 in
set_option maxHeartbeats 800000 in
theorem ww_FnExactServe (p0 : MZone) (p1 : MMsg) (r0 : Bool) (h : w_FnExactServe p0 p1 = some r0) : Runs Tryd.prog 13 [.agg (mZoneV p0), .agg (mMsgV p1)] [] (.sc (.bool r0)) [] := by
  unfold w_FnExactServe at h
  refine runsR [.tmp 4] Tryd.func13 rfl rfl rfl rfl ?_
  rw [Tryd.ntmps13]
  refine tri_seq ?_
  refine tri_region ?_
  refine s_box rfl rfl rfl rfl rfl rfl rfl ?_
  refine s_box rfl rfl rfl rfl rfl rfl rfl ?_
  refine s_mv (.inr rfl) (v := .sc (.bool false)) rfl rfl rfl rfl ?_
  refine rt_nil ?_
  refine tri_seq ?_
  refine tri_region ?_
  refine s_mv (.inr rfl) (v := .sc (.int .i64 1048576)) rfl rfl rfl rfl ?_
  refine rt_nil ?_
  refine tri_seq ?_
  refine tri_region ?_
  refine s_loadR rfl rfl rfl rfl ty37 rfl rfl rfl ?_
  refine s_mv (.inl rfl) (by conv => lhs; whnf) rfl rfl rfl ?_
  refine bnd1_elim h fun x1 q2 h => ?_
  refine s_callN (kb := []) (ns := []) (v := .sc (.int .i64 x1)) rfl rfl cl20 (ww_szZone p0 1048576 x1 q2) rfl (.cons (relAgg rfl) (.cons (.free rfl) .nil)) trivial memNil .nil memNil rfl trivial memNil rfl rfl rfl rfl rfl rfl ?_
  refine s_mv (.inr rfl) (by conv => lhs; whnf) rfl rfl rfl ?_
  refine rt_nil ?_
  refine tri_seq ?_
  refine tri_seq ?_
  refine tri_region ?_
  refine s_mv (.inl rfl) (by conv => lhs; whnf) rfl rfl rfl ?_
  refine s_of (st_lss rfl rfl rfl) rfl rfl rfl rfl ?_
  refine rt_nil ?_
  refine tri_cond rfl (fun c3 => ?_) (fun c3 => ?_)
  · replace h := cond_t h c3
    refine tri_seq ?_
    refine tri_region ?_
    refine s_mv (.inr rfl) (v := .sc (.bool true)) rfl rfl rfl rfl ?_
    refine rt_nil ?_
    refine tri_ret ?_
    have e0 := (some1 h); subst e0
    exact endY [] [] (rvC (resTmp rfl) rvN) trivial trivial rfl rfl rfl rfl (.free rfl)
  · replace h := cond_f h c3
    refine tri_skip ?_
    refine tri_seq ?_
    refine tri_region ?_
    refine s_loadR rfl rfl rfl rfl ty69 rfl rfl rfl ?_
    refine s_mv (.inl rfl) (by conv => lhs; whnf) rfl rfl rfl ?_
    refine bnd1_elim h fun x4 q5 h => ?_
    refine s_callN (kb := []) (ns := []) (v := .sc (.int .i64 x4)) rfl rfl cl51 (ww_szMsg p1 x1 x4 q5) rfl (.cons (relAgg rfl) (.cons (.free rfl) .nil)) trivial memNil .nil memNil rfl trivial memNil rfl rfl rfl rfl rfl rfl ?_
    refine s_mv (.inr rfl) (by conv => lhs; whnf) rfl rfl rfl ?_
    refine rt_nil ?_
    refine tri_seq ?_
    refine tri_seq ?_
    refine tri_region ?_
    refine s_mv (.inl rfl) (by conv => lhs; whnf) rfl rfl rfl ?_
    refine s_of (st_lss rfl rfl rfl) rfl rfl rfl rfl ?_
    refine rt_nil ?_
    refine tri_cond rfl (fun c6 => ?_) (fun c6 => ?_)
    · replace h := cond_t h c6
      refine tri_seq ?_
      refine tri_region ?_
      refine s_mv (.inr rfl) (v := .sc (.bool true)) rfl rfl rfl rfl ?_
      refine rt_nil ?_
      refine tri_ret ?_
      have e0 := (some1 h); subst e0
      exact endY [] [] (rvC (resTmp rfl) rvN) trivial trivial rfl rfl rfl rfl (.free rfl)
    · replace h := cond_f h c6
      refine tri_skip ?_
      refine tri_seq ?_
      refine tri_draw mixed ?_
      refine s_loadR rfl rfl rfl rfl ty37 rfl rfl rfl ?_
      refine bnd1_elim h fun x7 q8 h => ?_
      refine s_callN (kb := []) (ns := []) (v := .agg [.sc (.string x7.apex), .ref (25, 1) 0 x7.l.length]) rfl rfl cl23 (ww_toZone p0 x7 q8) rfl (.cons (relAgg rfl) .nil) trivial memNil .nil memNil rfl ⟨(allSc_map recV_sc), trivial⟩ memNil rfl (by simp only [V.mat, V.mat1, V.mat0, matL, matT, List.length_map]) rfl rfl rfl rfl ?_
      refine s_loadR rfl rfl rfl rfl ty69 rfl rfl rfl ?_
      refine bnd1_elim h fun x9 q10 h => ?_
      refine s_callN (kb := []) (ns := []) (v := .agg [.sc (.int .i64 x9.id), .sc (.bool x9.reply), .sc (.bool x9.auth), .sc (.bool x9.cut), .sc (.bool x9.want), .sc (.bool x9.can), .sc (.int .i64 x9.code), .sc (.string x9.q.name), .sc (.int .i64 x9.q.ty), .ref (27, 9) 0 x9.an.length, .ref (27, 10) 0 x9.au.length, .ref (27, 11) 0 x9.ad.length]) rfl rfl cl53 (ww_toMsg p1 x9 q10) rfl (.cons (relAgg rfl) .nil) trivial memNil .nil memNil rfl ⟨(allSc_map recV_sc), ⟨(allSc_map recV_sc), ⟨(allSc_map recV_sc), trivial⟩⟩⟩ memNil rfl (by simp only [V.mat, V.mat1, V.mat0, matL, matT, List.length_map]) rfl rfl rfl rfl ?_
      refine bnd1_elim h fun x11 q12 h => ?_
      refine s_callN (kb := [(25, 1), (27, 9), (27, 10), (27, 11)]) (ns := []) (v := .agg [.sc (.int .i64 x11.id), .sc (.bool x11.reply), .sc (.bool x11.auth), .sc (.bool x11.cut), .sc (.bool x11.want), .sc (.bool x11.can), .sc (.int .i64 x11.code), .sc (.string x11.q.name), .sc (.int .i64 x11.q.ty), .ref (28, 9) 0 x11.an.length, .ref (28, 10) 0 x11.au.length, .ref (28, 11) 0 x11.ad.length]) rfl rfl cl52 (ws_Serve x7 x9 x11 q12) rfl (.cons (relAggL (.cons (.free rfl) (.cons (lendL rfl (.head _) rfl recV_free recV_len) .nil))) (.cons (relAggL (.cons (.free rfl) (.cons (.free rfl) (.cons (.free rfl) (.cons (.free rfl) (.cons (.free rfl) (.cons (.free rfl) (.cons (.free rfl) (.cons (.free rfl) (.cons (.free rfl) (.cons (lendL rfl (.tail _ (.head _)) rfl recV_free recV_len) (.cons (lendL rfl (.tail _ (.tail _ (.head _))) rfl recV_free recV_len) (.cons (lendL rfl (.tail _ (.tail _ (.tail _ (.head _)))) rfl recV_free recV_len) .nil))))))))))))) .nil)) trivial memNil .nil (fun _ _ => List.not_mem_nil) rfl ⟨(allSc_map recV_sc), ⟨(allSc_map recV_sc), ⟨(allSc_map recV_sc), trivial⟩⟩⟩ memNil rfl (by simp only [V.mat, V.mat1, V.mat0, matL, matT, List.length_map]) rfl rfl rfl rfl ?_
      refine s_alloc rfl rfl rfl zc72 rfl rfl rfl rfl rfl ?_
      refine s_storeB rfl rfl rfl ty72 rfl rfl rfl rfl rfl ?_
      refine rt_nil ⟨by kernel_rfl, ?_⟩
      refine tri_seq ?_
      refine tri_region ?_
      refine s_loadR rfl rfl rfl rfl ty37 rfl rfl rfl ?_
      refine bnd1_elim h fun x13 q14 h => ?_
      refine s_callN (kb := []) (ns := []) (v := .agg [.sc (.string x13.apex), .ref (30, 1) 0 x13.l.length]) rfl rfl cl23 (ww_toZone p0 x13 q14) rfl (.cons (relAgg rfl) .nil) trivial memNil .nil memNil rfl ⟨(allSc_map recV_sc), trivial⟩ memNil rfl (by simp only [V.mat, V.mat1, V.mat0, matL, matT, List.length_map]) rfl rfl rfl rfl ?_
      refine s_alloc rfl rfl rfl zc45 rfl rfl rfl rfl rfl ?_
      refine s_storeB rfl rfl rfl ty45 rfl rfl rfl rfl rfl ?_
      refine rt_nil ?_
      refine tri_seq ?_
      refine tri_region ?_
      refine s_loadR rfl rfl rfl rfl ty69 rfl rfl rfl ?_
      refine bnd1_elim h fun x15 q16 h => ?_
      refine s_callN (kb := []) (ns := []) (v := .agg [.sc (.int .i64 x15.id), .sc (.bool x15.reply), .sc (.bool x15.auth), .sc (.bool x15.cut), .sc (.bool x15.want), .sc (.bool x15.can), .sc (.int .i64 x15.code), .sc (.string x15.q.name), .sc (.int .i64 x15.q.ty), .ref (32, 9) 0 x15.an.length, .ref (32, 10) 0 x15.au.length, .ref (32, 11) 0 x15.ad.length]) rfl rfl cl53 (ww_toMsg p1 x15 q16) rfl (.cons (relAgg rfl) .nil) trivial memNil .nil memNil rfl ⟨(allSc_map recV_sc), ⟨(allSc_map recV_sc), ⟨(allSc_map recV_sc), trivial⟩⟩⟩ memNil rfl (by simp only [V.mat, V.mat1, V.mat0, matL, matT, List.length_map]) rfl rfl rfl rfl ?_
      refine s_alloc rfl rfl rfl zc72 rfl rfl rfl rfl rfl ?_
      refine s_storeB rfl rfl rfl ty72 rfl rfl rfl rfl rfl ?_
      refine rt_nil ?_
      refine tri_seq ?_
      refine tri_region ?_
      refine s_loadR rfl rfl rfl rfl ty45 rfl rfl rfl ?_
      refine s_loadR rfl rfl rfl rfl ty72 rfl rfl rfl ?_
      refine bnd1_elim h fun x17 q18 h => ?_
      refine s_callN (kb := [(30, 1), (32, 9), (32, 10), (32, 11)]) (ns := []) (v := .agg [.sc (.int .i64 x17.id), .sc (.bool x17.reply), .sc (.bool x17.auth), .sc (.bool x17.cut), .sc (.bool x17.want), .sc (.bool x17.can), .sc (.int .i64 x17.code), .sc (.string x17.q.name), .sc (.int .i64 x17.q.ty), .ref (35, 9) 0 x17.an.length, .ref (35, 10) 0 x17.au.length, .ref (35, 11) 0 x17.ad.length]) rfl rfl cl54 (wi_Serve x13 x15 x17 q18) rfl (.cons (relAggL (.cons (.free rfl) (.cons (lendL rfl (.head _) rfl recV_free recV_len) .nil))) (.cons (relAggL (.cons (.free rfl) (.cons (.free rfl) (.cons (.free rfl) (.cons (.free rfl) (.cons (.free rfl) (.cons (.free rfl) (.cons (.free rfl) (.cons (.free rfl) (.cons (.free rfl) (.cons (lendL rfl (.tail _ (.head _)) rfl recV_free recV_len) (.cons (lendL rfl (.tail _ (.tail _ (.head _))) rfl recV_free recV_len) (.cons (lendL rfl (.tail _ (.tail _ (.tail _ (.head _)))) rfl recV_free recV_len) .nil))))))))))))) .nil)) trivial memNil .nil (fun _ _ => List.not_mem_nil) rfl ⟨(allSc_map recV_sc), ⟨(allSc_map recV_sc), ⟨(allSc_map recV_sc), trivial⟩⟩⟩ memNil rfl (by simp only [V.mat, V.mat1, V.mat0, matL, matT, List.length_map]) rfl rfl rfl rfl ?_
      refine s_alloc rfl rfl rfl zc72 rfl rfl rfl rfl rfl ?_
      refine s_storeB rfl rfl rfl ty72 rfl rfl rfl rfl rfl ?_
      refine rt_nil ?_
      refine tri_seq ?_
      refine tri_seq ?_
      refine tri_region ?_
      refine s_loadR rfl rfl rfl rfl ty72 rfl rfl rfl ?_
      refine s_loadR rfl rfl rfl rfl ty72 rfl rfl rfl ?_
      refine bnd1_elim h fun x19 q20 h => ?_
      refine s_callN (kb := [(35, 9), (35, 10), (35, 11), (28, 9), (28, 10), (28, 11)]) (ns := []) (v := .sc (.bool x19)) rfl rfl cl55 (ww_eqMsg x17 x11 x19 q20) rfl (.cons (relAggL (.cons (.free rfl) (.cons (.free rfl) (.cons (.free rfl) (.cons (.free rfl) (.cons (.free rfl) (.cons (.free rfl) (.cons (.free rfl) (.cons (.free rfl) (.cons (.free rfl) (.cons (lendL rfl (.head _) rfl recV_free recV_len) (.cons (lendL rfl (.tail _ (.head _)) rfl recV_free recV_len) (.cons (lendL rfl (.tail _ (.tail _ (.head _))) rfl recV_free recV_len) .nil))))))))))))) (.cons (relAggL (.cons (.free rfl) (.cons (.free rfl) (.cons (.free rfl) (.cons (.free rfl) (.cons (.free rfl) (.cons (.free rfl) (.cons (.free rfl) (.cons (.free rfl) (.cons (.free rfl) (.cons (lendL rfl (.tail _ (.tail _ (.tail _ (.head _)))) rfl recV_free recV_len) (.cons (lendL rfl (.tail _ (.tail _ (.tail _ (.tail _ (.head _))))) rfl recV_free recV_len) (.cons (lendL rfl (.tail _ (.tail _ (.tail _ (.tail _ (.tail _ (.head _)))))) rfl recV_free recV_len) .nil))))))))))))) .nil)) trivial memNil .nil (fun _ _ => List.not_mem_nil) rfl trivial memNil rfl rfl rfl rfl rfl rfl ?_
      refine s_of (st_not rfl rfl) rfl rfl rfl rfl ?_
      refine rt_nil ?_
      refine tri_cond rfl (fun c21 => ?_) (fun c21 => ?_)
      · replace h := cond_t h c21
        refine tri_seq ?_
        refine tri_region ?_
        refine s_mv (.inr rfl) (v := .sc (.bool false)) rfl rfl rfl rfl ?_
        refine rt_nil ?_
        refine tri_ret ?_
        have e0 := (some1 h); subst e0
        exact endY [] [] (rvC (resTmp rfl) rvN) trivial trivial rfl rfl rfl rfl (.free rfl)
      · replace h := cond_f h c21
        refine tri_skip ?_
        refine tri_seq ?_
        refine tri_seq ?_
        refine tri_draw mixed ?_
        refine s_loadR rfl rfl rfl rfl ty45 rfl rfl rfl ?_
        refine s_loadR rfl rfl rfl rfl ty37 rfl rfl rfl ?_
        refine bnd1_elim h fun x22 q23 h => ?_
        refine s_callN (kb := []) (ns := []) (v := .agg [.sc (.string x22.apex), .ref (42, 1) 0 x22.l.length]) rfl rfl cl23 (ww_toZone p0 x22 q23) rfl (.cons (relAgg rfl) .nil) trivial memNil .nil memNil rfl ⟨(allSc_map recV_sc), trivial⟩ memNil rfl (by simp only [V.mat, V.mat1, V.mat0, matL, matT, List.length_map]) rfl rfl rfl rfl ?_
        refine bnd1_elim h fun x24 q25 h => ?_
        refine s_callN (kb := [(30, 1), (42, 1)]) (ns := []) (v := .sc (.bool x24)) rfl rfl cl26 (ww_eqZone x13 x22 x24 q25) rfl (.cons (relAggL (.cons (.free rfl) (.cons (lendL rfl (.head _) rfl recV_free recV_len) .nil))) (.cons (relAggL (.cons (.free rfl) (.cons (lendL rfl (.tail _ (.head _)) rfl recV_free recV_len) .nil))) .nil)) trivial memNil .nil (fun _ _ => List.not_mem_nil) rfl trivial memNil rfl rfl rfl rfl rfl rfl ?_
        refine s_of (st_not rfl rfl) rfl rfl rfl rfl ?_
        refine rt_nil ⟨by kernel_rfl, ?_⟩
        refine tri_cond rfl (fun c26 => ?_) (fun c26 => ?_)
        · replace h := cond_t h c26
          refine tri_seq ?_
          refine tri_region ?_
          refine s_mv (.inr rfl) (v := .sc (.bool false)) rfl rfl rfl rfl ?_
          refine rt_nil ?_
          refine tri_ret ?_
          have e0 := (some1 h); subst e0
          exact endY [] [] (rvC (resTmp rfl) rvN) trivial trivial rfl rfl rfl rfl (.free rfl)
        · replace h := cond_f h c26
          refine tri_skip ?_
          refine tri_seq ?_
          refine tri_seq ?_
          refine tri_draw mixed ?_
          refine s_loadR rfl rfl rfl rfl ty72 rfl rfl rfl ?_
          refine s_loadR rfl rfl rfl rfl ty69 rfl rfl rfl ?_
          refine bnd1_elim h fun x27 q28 h => ?_
          refine s_callN (kb := []) (ns := []) (v := .agg [.sc (.int .i64 x27.id), .sc (.bool x27.reply), .sc (.bool x27.auth), .sc (.bool x27.cut), .sc (.bool x27.want), .sc (.bool x27.can), .sc (.int .i64 x27.code), .sc (.string x27.q.name), .sc (.int .i64 x27.q.ty), .ref (47, 9) 0 x27.an.length, .ref (47, 10) 0 x27.au.length, .ref (47, 11) 0 x27.ad.length]) rfl rfl cl53 (ww_toMsg p1 x27 q28) rfl (.cons (relAgg rfl) .nil) trivial memNil .nil memNil rfl ⟨(allSc_map recV_sc), ⟨(allSc_map recV_sc), ⟨(allSc_map recV_sc), trivial⟩⟩⟩ memNil rfl (by simp only [V.mat, V.mat1, V.mat0, matL, matT, List.length_map]) rfl rfl rfl rfl ?_
          refine bnd1_elim h fun x29 q30 h => ?_
          refine s_callN (kb := [(32, 9), (32, 10), (32, 11), (47, 9), (47, 10), (47, 11)]) (ns := []) (v := .sc (.bool x29)) rfl rfl cl55 (ww_eqMsg x15 x27 x29 q30) rfl (.cons (relAggL (.cons (.free rfl) (.cons (.free rfl) (.cons (.free rfl) (.cons (.free rfl) (.cons (.free rfl) (.cons (.free rfl) (.cons (.free rfl) (.cons (.free rfl) (.cons (.free rfl) (.cons (lendL rfl (.head _) rfl recV_free recV_len) (.cons (lendL rfl (.tail _ (.head _)) rfl recV_free recV_len) (.cons (lendL rfl (.tail _ (.tail _ (.head _))) rfl recV_free recV_len) .nil))))))))))))) (.cons (relAggL (.cons (.free rfl) (.cons (.free rfl) (.cons (.free rfl) (.cons (.free rfl) (.cons (.free rfl) (.cons (.free rfl) (.cons (.free rfl) (.cons (.free rfl) (.cons (.free rfl) (.cons (lendL rfl (.tail _ (.tail _ (.tail _ (.head _)))) rfl recV_free recV_len) (.cons (lendL rfl (.tail _ (.tail _ (.tail _ (.tail _ (.head _))))) rfl recV_free recV_len) (.cons (lendL rfl (.tail _ (.tail _ (.tail _ (.tail _ (.tail _ (.head _)))))) rfl recV_free recV_len) .nil))))))))))))) .nil)) trivial memNil .nil (fun _ _ => List.not_mem_nil) rfl trivial memNil rfl rfl rfl rfl rfl rfl ?_
          refine s_of (st_not rfl rfl) rfl rfl rfl rfl ?_
          refine rt_nil ⟨by kernel_rfl, ?_⟩
          refine tri_cond rfl (fun c31 => ?_) (fun c31 => ?_)
          · replace h := cond_t h c31
            refine tri_seq ?_
            refine tri_region ?_
            refine s_mv (.inr rfl) (v := .sc (.bool false)) rfl rfl rfl rfl ?_
            refine rt_nil ?_
            refine tri_ret ?_
            have e0 := (some1 h); subst e0
            exact endY [] [] (rvC (resTmp rfl) rvN) trivial trivial rfl rfl rfl rfl (.free rfl)
          · replace h := cond_f h c31
            refine tri_skip ?_
            refine tri_seq ?_
            refine tri_region ?_
            refine s_mv (.inr rfl) (v := .sc (.int .i64 1)) rfl rfl rfl rfl ?_
            refine rt_nil ?_
            refine tri_seq ?_
            refine tri_region ?_
            refine s_loadR rfl rfl rfl rfl ty45 rfl rfl rfl ?_
            refine s_mv (.inl rfl) (by conv => lhs; whnf) rfl rfl rfl ?_
            refine bnd2_elim h fun x32 x33 q34 h => ?_
            refine grd_elim h fun g35 h => ?_
            refine s_callN (kb := []) (ns := [(30, 1)]) (v := .sc (.int .i64 x32)) rfl rfl cl32 (ww_markZone x13 1 x32 x33 q34) rfl (.cons (relAggL (.cons (.free rfl) (.cons (.refOwn rfl) .nil))) (.cons (.free rfl) .nil)) ⟨⟨_, rfl, rfl⟩, trivial⟩ (memCons (allFree_map recV_free) memNil) (List.nodup_cons.2 ⟨List.not_mem_nil, .nil⟩) memNil rfl trivial (memCons (allSc_map recV_sc) memNil) rfl rfl rfl rfl rfl rfl ?_
            refine s_mv (.inr rfl) (by conv => lhs; whnf) rfl rfl rfl ?_
            refine rt_nil ?_
            refine tri_seq ?_
            refine tri_region ?_
            refine s_loadR rfl rfl rfl rfl ty72 rfl rfl rfl ?_
            refine s_mv (.inl rfl) (by conv => lhs; whnf) rfl rfl rfl ?_
            refine bnd4_elim h fun x36 x37 x38 x39 q40 h => ?_
            refine grd_elim h fun g41 h => ?_
            refine grd_elim h fun g42 h => ?_
            refine grd_elim h fun g43 h => ?_
            refine s_callN (kb := []) (ns := [(32, 9), (32, 10), (32, 11)]) (v := .sc (.int .i64 x36)) rfl rfl cl56 (ww_markMsg x15 x32 x36 x37 x38 x39 q40) rfl (.cons (relAggL (.cons (.free rfl) (.cons (.free rfl) (.cons (.free rfl) (.cons (.free rfl) (.cons (.free rfl) (.cons (.free rfl) (.cons (.free rfl) (.cons (.free rfl) (.cons (.free rfl) (.cons (.refOwn rfl) (.cons (.refOwn rfl) (.cons (.refOwn rfl) .nil))))))))))))) (.cons (.free rfl) .nil)) ⟨⟨_, rfl, rfl⟩, ⟨⟨_, rfl, rfl⟩, ⟨⟨_, rfl, rfl⟩, trivial⟩⟩⟩ (memCons (allFree_map recV_free) (memCons (allFree_map recV_free) (memCons (allFree_map recV_free) memNil))) (by decide) memNil rfl trivial (memCons (allSc_map recV_sc) (memCons (allSc_map recV_sc) (memCons (allSc_map recV_sc) memNil))) rfl rfl rfl rfl rfl rfl ?_
            refine s_mv (.inr rfl) (by conv => lhs; whnf) rfl rfl rfl ?_
            refine rt_nil ?_
            refine tri_seq ?_
            refine tri_cutI (ι := { p : Bool // w_FnExactServe_j0 p0 p1 x11 x17 p = some r0 }) (fun p => inv_w_FnExactServe_0 p0 p1 x11 x17 p.1) ?_ ?_
            · skip
              refine tri_region ?_
              refine s_mv (.inl rfl) (by conv => lhs; whnf) rfl rfl rfl ?_
              refine s_of (st_lss rfl rfl rfl) rfl rfl rfl rfl ?_
              refine s_mv (.inl rfl) (by conv => lhs; whnf) rfl rfl rfl ?_
              refine s_split (t := 58) rfl (fun b44 => ?_) (fun b44 => ?_)
              · replace h := cond_t h b44
                refine s_skip rfl rfl rfl ?_
                refine s_skip rfl rfl rfl ?_
                refine s_skip rfl rfl rfl ?_
                refine s_skip rfl rfl rfl ?_
                refine s_pickT rfl rfl (v := .sc (.bool true)) rfl rfl rfl rfl ?_
                refine rt_nil ?_
                refine Exists.intro ⟨true, h⟩ ?_
                refine entX [((2, 0), ⟨37, 2, [[.sc (.string p0.apex), .lst 6 (List.map recV p0.l)]], false, true⟩, some (2, 0)), ((3, 0), ⟨69, 12, [[.sc (.int .i64 p1.id), .sc (.bool p1.reply), .sc (.bool p1.auth), .sc (.bool p1.cut), .sc (.bool p1.want), .sc (.bool p1.can), .sc (.int .i64 p1.code), .sc (.string p1.q.name), .sc (.int .i64 p1.q.ty), .lst 6 (List.map recV p1.an), .lst 6 (List.map recV p1.au), .lst 6 (List.map recV p1.ad)]], false, true⟩, some (3, 0)), ((6, 0), ⟨72, 12, [[.sc (.int .i64 x11.id), .sc (.bool x11.reply), .sc (.bool x11.auth), .sc (.bool x11.cut), .sc (.bool x11.want), .sc (.bool x11.can), .sc (.int .i64 x11.code), .sc (.string x11.q.name), .sc (.int .i64 x11.q.ty), .ref (28, 9) 0 x11.an.length, .ref (28, 10) 0 x11.au.length, .ref (28, 11) 0 x11.ad.length]], false, true⟩, some (6, 0)), ((28, 9), ⟨105, 6, List.map recV x11.an, false, true⟩, some (28, 9)), ((28, 10), ⟨105, 6, List.map recV x11.au, false, true⟩, some (28, 10)), ((28, 11), ⟨105, 6, List.map recV x11.ad, false, true⟩, some (28, 11)), ((9, 0), ⟨72, 12, [[.sc (.int .i64 x17.id), .sc (.bool x17.reply), .sc (.bool x17.auth), .sc (.bool x17.cut), .sc (.bool x17.want), .sc (.bool x17.can), .sc (.int .i64 x17.code), .sc (.string x17.q.name), .sc (.int .i64 x17.q.ty), .ref (35, 9) 0 x17.an.length, .ref (35, 10) 0 x17.au.length, .ref (35, 11) 0 x17.ad.length]], false, true⟩, some (9, 0)), ((35, 9), ⟨105, 6, List.map recV x17.an, false, true⟩, some (35, 9)), ((35, 10), ⟨105, 6, List.map recV x17.au, false, true⟩, some (35, 10)), ((35, 11), ⟨105, 6, List.map recV x17.ad, false, true⟩, some (35, 11))] [] ⟨⟨rfl, _, rfl, rfl, rfl, rfl, id, rowsCv_one (.cons (.free rfl) (.cons (.free rfl) .nil)), rowsZ_one rfl⟩, ⟨rfl, _, rfl, rfl, rfl, rfl, id, rowsCv_one (.cons (.free rfl) (.cons (.free rfl) (.cons (.free rfl) (.cons (.free rfl) (.cons (.free rfl) (.cons (.free rfl) (.cons (.free rfl) (.cons (.free rfl) (.cons (.free rfl) (.cons (.free rfl) (.cons (.free rfl) (.cons (.free rfl) .nil)))))))))))), rowsZ_one rfl⟩, ⟨rfl, _, rfl, rfl, rfl, rfl, id, rowsCv_one (.cons (.free rfl) (.cons (.free rfl) (.cons (.free rfl) (.cons (.free rfl) (.cons (.free rfl) (.cons (.free rfl) (.cons (.free rfl) (.cons (.free rfl) (.cons (.free rfl) (.cons (.ref rfl) (.cons (.ref rfl) (.cons (.ref rfl) .nil)))))))))))), rowsZ_one rfl⟩, ⟨rfl, _, rfl, rfl, rfl, rfl, id, rowsCv_eq rfl (allFree_map recV_free), rowsZ_map recV_len⟩, ⟨rfl, _, rfl, rfl, rfl, rfl, id, rowsCv_eq rfl (allFree_map recV_free), rowsZ_map recV_len⟩, ⟨rfl, _, rfl, rfl, rfl, rfl, id, rowsCv_eq rfl (allFree_map recV_free), rowsZ_map recV_len⟩, ⟨rfl, _, rfl, rfl, rfl, rfl, id, rowsCv_one (.cons (.free rfl) (.cons (.free rfl) (.cons (.free rfl) (.cons (.free rfl) (.cons (.free rfl) (.cons (.free rfl) (.cons (.free rfl) (.cons (.free rfl) (.cons (.free rfl) (.cons (.ref rfl) (.cons (.ref rfl) (.cons (.ref rfl) .nil)))))))))))), rowsZ_one rfl⟩, ⟨rfl, _, rfl, rfl, rfl, rfl, id, rowsCv_eq rfl (allFree_map recV_free), rowsZ_map recV_len⟩, ⟨rfl, _, rfl, rfl, rfl, rfl, id, rowsCv_eq rfl (allFree_map recV_free), rowsZ_map recV_len⟩, ⟨rfl, _, rfl, rfl, rfl, rfl, id, rowsCv_eq rfl (allFree_map recV_free), rowsZ_map recV_len⟩, trivial⟩ trivial rfl rfl ?_
                exact ⟨(.ptr rfl), (.ptr rfl), (.ptr rfl), (.ptr rfl), (.free rfl), trivial⟩
              · replace h := cond_f h b44
                refine s_loadR rfl rfl rfl rfl ty72 rfl rfl rfl ?_
                refine s_loadR rfl rfl rfl rfl ty72 rfl rfl rfl ?_
                refine bnd1_elim h fun x45 q46 h => ?_
                refine s_callN (kb := [(35, 9), (35, 10), (35, 11), (28, 9), (28, 10), (28, 11)]) (ns := []) (v := .sc (.bool x45)) rfl rfl cl55 (ww_eqMsg x17 x11 x45 q46) rfl (.cons (relAggL (.cons (.free rfl) (.cons (.free rfl) (.cons (.free rfl) (.cons (.free rfl) (.cons (.free rfl) (.cons (.free rfl) (.cons (.free rfl) (.cons (.free rfl) (.cons (.free rfl) (.cons (lendL rfl (.head _) rfl recV_free recV_len) (.cons (lendL rfl (.tail _ (.head _)) rfl recV_free recV_len) (.cons (lendL rfl (.tail _ (.tail _ (.head _))) rfl recV_free recV_len) .nil))))))))))))) (.cons (relAggL (.cons (.free rfl) (.cons (.free rfl) (.cons (.free rfl) (.cons (.free rfl) (.cons (.free rfl) (.cons (.free rfl) (.cons (.free rfl) (.cons (.free rfl) (.cons (.free rfl) (.cons (lendL rfl (.tail _ (.tail _ (.tail _ (.head _)))) rfl recV_free recV_len) (.cons (lendL rfl (.tail _ (.tail _ (.tail _ (.tail _ (.head _))))) rfl recV_free recV_len) (.cons (lendL rfl (.tail _ (.tail _ (.tail _ (.tail _ (.tail _ (.head _)))))) rfl recV_free recV_len) .nil))))))))))))) .nil)) trivial memNil .nil (fun _ _ => List.not_mem_nil) rfl trivial memNil rfl rfl rfl rfl rfl rfl ?_
                refine s_of (st_not rfl rfl) rfl rfl rfl rfl ?_
                refine s_pickF rfl rfl (by conv => lhs; whnf) rfl rfl rfl ?_
                refine rt_nil ?_
                refine Exists.intro ⟨!x45, h⟩ ?_
                refine entX [((2, 0), ⟨37, 2, [[.sc (.string p0.apex), .lst 6 (List.map recV p0.l)]], false, true⟩, some (2, 0)), ((3, 0), ⟨69, 12, [[.sc (.int .i64 p1.id), .sc (.bool p1.reply), .sc (.bool p1.auth), .sc (.bool p1.cut), .sc (.bool p1.want), .sc (.bool p1.can), .sc (.int .i64 p1.code), .sc (.string p1.q.name), .sc (.int .i64 p1.q.ty), .lst 6 (List.map recV p1.an), .lst 6 (List.map recV p1.au), .lst 6 (List.map recV p1.ad)]], false, true⟩, some (3, 0)), ((6, 0), ⟨72, 12, [[.sc (.int .i64 x11.id), .sc (.bool x11.reply), .sc (.bool x11.auth), .sc (.bool x11.cut), .sc (.bool x11.want), .sc (.bool x11.can), .sc (.int .i64 x11.code), .sc (.string x11.q.name), .sc (.int .i64 x11.q.ty), .ref (28, 9) 0 x11.an.length, .ref (28, 10) 0 x11.au.length, .ref (28, 11) 0 x11.ad.length]], false, true⟩, some (6, 0)), ((28, 9), ⟨105, 6, List.map recV x11.an, false, true⟩, some (28, 9)), ((28, 10), ⟨105, 6, List.map recV x11.au, false, true⟩, some (28, 10)), ((28, 11), ⟨105, 6, List.map recV x11.ad, false, true⟩, some (28, 11)), ((9, 0), ⟨72, 12, [[.sc (.int .i64 x17.id), .sc (.bool x17.reply), .sc (.bool x17.auth), .sc (.bool x17.cut), .sc (.bool x17.want), .sc (.bool x17.can), .sc (.int .i64 x17.code), .sc (.string x17.q.name), .sc (.int .i64 x17.q.ty), .ref (35, 9) 0 x17.an.length, .ref (35, 10) 0 x17.au.length, .ref (35, 11) 0 x17.ad.length]], false, true⟩, some (9, 0)), ((35, 9), ⟨105, 6, List.map recV x17.an, false, true⟩, some (35, 9)), ((35, 10), ⟨105, 6, List.map recV x17.au, false, true⟩, some (35, 10)), ((35, 11), ⟨105, 6, List.map recV x17.ad, false, true⟩, some (35, 11))] [] ⟨⟨rfl, _, rfl, rfl, rfl, rfl, id, rowsCv_one (.cons (.free rfl) (.cons (.free rfl) .nil)), rowsZ_one rfl⟩, ⟨rfl, _, rfl, rfl, rfl, rfl, id, rowsCv_one (.cons (.free rfl) (.cons (.free rfl) (.cons (.free rfl) (.cons (.free rfl) (.cons (.free rfl) (.cons (.free rfl) (.cons (.free rfl) (.cons (.free rfl) (.cons (.free rfl) (.cons (.free rfl) (.cons (.free rfl) (.cons (.free rfl) .nil)))))))))))), rowsZ_one rfl⟩, ⟨rfl, _, rfl, rfl, rfl, rfl, id, rowsCv_one (.cons (.free rfl) (.cons (.free rfl) (.cons (.free rfl) (.cons (.free rfl) (.cons (.free rfl) (.cons (.free rfl) (.cons (.free rfl) (.cons (.free rfl) (.cons (.free rfl) (.cons (.ref rfl) (.cons (.ref rfl) (.cons (.ref rfl) .nil)))))))))))), rowsZ_one rfl⟩, ⟨rfl, _, rfl, rfl, rfl, rfl, id, rowsCv_eq rfl (allFree_map recV_free), rowsZ_map recV_len⟩, ⟨rfl, _, rfl, rfl, rfl, rfl, id, rowsCv_eq rfl (allFree_map recV_free), rowsZ_map recV_len⟩, ⟨rfl, _, rfl, rfl, rfl, rfl, id, rowsCv_eq rfl (allFree_map recV_free), rowsZ_map recV_len⟩, ⟨rfl, _, rfl, rfl, rfl, rfl, id, rowsCv_one (.cons (.free rfl) (.cons (.free rfl) (.cons (.free rfl) (.cons (.free rfl) (.cons (.free rfl) (.cons (.free rfl) (.cons (.free rfl) (.cons (.free rfl) (.cons (.free rfl) (.cons (.ref rfl) (.cons (.ref rfl) (.cons (.ref rfl) .nil)))))))))))), rowsZ_one rfl⟩, ⟨rfl, _, rfl, rfl, rfl, rfl, id, rowsCv_eq rfl (allFree_map recV_free), rowsZ_map recV_len⟩, ⟨rfl, _, rfl, rfl, rfl, rfl, id, rowsCv_eq rfl (allFree_map recV_free), rowsZ_map recV_len⟩, ⟨rfl, _, rfl, rfl, rfl, rfl, id, rowsCv_eq rfl (allFree_map recV_free), rowsZ_map recV_len⟩, trivial⟩ trivial rfl rfl ?_
                exact ⟨(.ptr rfl), (.ptr rfl), (.ptr rfl), (.ptr rfl), (.free rfl), trivial⟩
            · rintro ⟨j0_0, h⟩
              replace h : w_FnExactServe_j0 p0 p1 x11 x17 j0_0 = some r0 := h
              unfold w_FnExactServe_j0 at h
              show Tri _ _ _ (inv_w_FnExactServe_0 p0 p1 x11 x17 j0_0)
              refine tri_cond rfl (fun c44 => ?_) (fun c44 => ?_)
              · replace h := cond_t h c44
                refine tri_seq ?_
                refine tri_region ?_
                refine s_mv (.inr rfl) (v := .sc (.bool false)) rfl rfl rfl rfl ?_
                refine rt_nil ?_
                refine tri_ret ?_
                have e0 := (some1 h); subst e0
                exact endY [] [] (rvC (resTmp rfl) rvN) trivial trivial rfl rfl rfl rfl (.free rfl)
              · replace h := cond_f h c44
                refine tri_skip ?_
                refine tri_seq ?_
                refine tri_region ?_
                refine s_mv (.inr rfl) (v := .sc (.int .i64 1)) rfl rfl rfl rfl ?_
                refine rt_nil ?_
                refine tri_seq ?_
                refine tri_region ?_
                refine s_loadR rfl rfl rfl rfl ty72 rfl rfl rfl ?_
                refine s_mv (.inl rfl) (by conv => lhs; whnf) rfl rfl rfl ?_
                refine bnd4_elim h fun x45 x46 x47 x48 q49 h => ?_
                refine grd_elim h fun g50 h => ?_
                refine grd_elim h fun g51 h => ?_
                refine grd_elim h fun g52 h => ?_
                refine s_callN (kb := []) (ns := [(35, 9), (35, 10), (35, 11)]) (v := .sc (.int .i64 x45)) rfl rfl cl56 (ww_markMsg x17 1 x45 x46 x47 x48 q49) rfl (.cons (relAggL (.cons (.free rfl) (.cons (.free rfl) (.cons (.free rfl) (.cons (.free rfl) (.cons (.free rfl) (.cons (.free rfl) (.cons (.free rfl) (.cons (.free rfl) (.cons (.free rfl) (.cons (.refOwn rfl) (.cons (.refOwn rfl) (.cons (.refOwn rfl) .nil))))))))))))) (.cons (.free rfl) .nil)) ⟨⟨_, rfl, rfl⟩, ⟨⟨_, rfl, rfl⟩, ⟨⟨_, rfl, rfl⟩, trivial⟩⟩⟩ (memCons (allFree_map recV_free) (memCons (allFree_map recV_free) (memCons (allFree_map recV_free) memNil))) (by decide) memNil rfl trivial (memCons (allSc_map recV_sc) (memCons (allSc_map recV_sc) (memCons (allSc_map recV_sc) memNil))) rfl rfl rfl rfl rfl rfl ?_
                refine s_mv (.inr rfl) (by conv => lhs; whnf) rfl rfl rfl ?_
                refine rt_nil ?_
                refine tri_seq ?_
                refine tri_region ?_
                refine s_mv (.inr rfl) (v := .sc (.int .i64 1)) rfl rfl rfl rfl ?_
                refine rt_nil ?_
                refine tri_seq ?_
                refine tri_region ?_
                refine s_loadR rfl rfl rfl rfl ty72 rfl rfl rfl ?_
                refine s_mv (.inl rfl) (by conv => lhs; whnf) rfl rfl rfl ?_
                refine bnd1_elim h fun x53 q54 h => ?_
                refine s_callN (kb := [(35, 9), (35, 10), (35, 11)]) (ns := []) (v := .sc (.int .i64 x53)) rfl rfl cl57 (ww_heldMsg (MMsg.mk x17.id x17.reply x17.auth x17.cut x17.want x17.can x17.code x17.q x46 x47 x48) 1 x53 q54) rfl (.cons (relAggL (.cons (.free rfl) (.cons (.free rfl) (.cons (.free rfl) (.cons (.free rfl) (.cons (.free rfl) (.cons (.free rfl) (.cons (.free rfl) (.cons (.free rfl) (.cons (.free rfl) (.cons (lendL rfl (.head _) (by simp only [List.length_set, g50]) recV_free recV_len) (.cons (lendL rfl (.tail _ (.head _)) (by simp only [List.length_set, g51]) recV_free recV_len) (.cons (lendL rfl (.tail _ (.tail _ (.head _))) (by simp only [List.length_set, g52]) recV_free recV_len) .nil))))))))))))) (.cons (.free rfl) .nil)) trivial memNil .nil (fun _ _ => List.not_mem_nil) rfl trivial memNil rfl rfl rfl rfl rfl rfl ?_
                refine s_mv (.inr rfl) (by conv => lhs; whnf) rfl rfl rfl ?_
                refine rt_nil ?_
                refine tri_seq ?_
                refine tri_seq ?_
                refine tri_region ?_
                refine s_mv (.inl rfl) (by conv => lhs; whnf) rfl rfl rfl ?_
                refine s_of (st_lss rfl rfl rfl) rfl rfl rfl rfl ?_
                refine rt_nil ?_
                refine tri_cond rfl (fun c55 => ?_) (fun c55 => ?_)
                · replace h := cond_t h c55
                  refine tri_seq ?_
                  refine tri_region ?_
                  refine s_mv (.inr rfl) (v := .sc (.bool false)) rfl rfl rfl rfl ?_
                  refine rt_nil ?_
                  refine tri_ret ?_
                  have e0 := (some1 h); subst e0
                  exact endY [] [] (rvC (resTmp rfl) rvN) trivial trivial rfl rfl rfl rfl (.free rfl)
                · replace h := cond_f h c55
                  refine tri_skip ?_
                  refine tri_seq ?_
                  refine tri_seq ?_
                  refine tri_region ?_
                  refine s_mv (.inl rfl) (by conv => lhs; whnf) rfl rfl rfl ?_
                  refine s_mv (.inl rfl) (by conv => lhs; whnf) rfl rfl rfl ?_
                  refine s_of (st_neI rfl rfl rfl) rfl rfl rfl rfl ?_
                  refine rt_nil ?_
                  refine tri_cond rfl (fun c56 => ?_) (fun c56 => ?_)
                  · replace h := cond_t h c56
                    refine tri_seq ?_
                    refine tri_region ?_
                    refine s_mv (.inr rfl) (v := .sc (.bool false)) rfl rfl rfl rfl ?_
                    refine rt_nil ?_
                    refine tri_ret ?_
                    have e0 := (some1 h); subst e0
                    exact endY [] [] (rvC (resTmp rfl) rvN) trivial trivial rfl rfl rfl rfl (.free rfl)
                  · replace h := cond_f h c56
                    refine tri_skip ?_
                    refine tri_seq ?_
                    refine tri_draw mixed ?_
                    refine s_loadR rfl rfl rfl rfl ty37 rfl rfl rfl ?_
                    refine bnd1_elim h fun x57 q58 h => ?_
                    refine s_callN (kb := []) (ns := []) (v := .agg [.sc (.string x57.apex), .ref (76, 1) 0 x57.l.length]) rfl rfl cl23 (ww_toZone p0 x57 q58) rfl (.cons (relAgg rfl) .nil) trivial memNil .nil memNil rfl ⟨(allSc_map recV_sc), trivial⟩ memNil rfl (by simp only [V.mat, V.mat1, V.mat0, matL, matT, List.length_map]) rfl rfl rfl rfl ?_
                    refine s_loadR rfl rfl rfl rfl ty69 rfl rfl rfl ?_
                    refine bnd1_elim h fun x59 q60 h => ?_
                    refine s_callN (kb := []) (ns := []) (v := .agg [.sc (.int .i64 x59.id), .sc (.bool x59.reply), .sc (.bool x59.auth), .sc (.bool x59.cut), .sc (.bool x59.want), .sc (.bool x59.can), .sc (.int .i64 x59.code), .sc (.string x59.q.name), .sc (.int .i64 x59.q.ty), .ref (78, 9) 0 x59.an.length, .ref (78, 10) 0 x59.au.length, .ref (78, 11) 0 x59.ad.length]) rfl rfl cl53 (ww_toMsg p1 x59 q60) rfl (.cons (relAgg rfl) .nil) trivial memNil .nil memNil rfl ⟨(allSc_map recV_sc), ⟨(allSc_map recV_sc), ⟨(allSc_map recV_sc), trivial⟩⟩⟩ memNil rfl (by simp only [V.mat, V.mat1, V.mat0, matL, matT, List.length_map]) rfl rfl rfl rfl ?_
                    refine bnd1_elim h fun x61 q62 h => ?_
                    refine s_callN (kb := [(76, 1), (78, 9), (78, 10), (78, 11)]) (ns := []) (v := .agg [.sc (.int .i64 x61.id), .sc (.bool x61.reply), .sc (.bool x61.auth), .sc (.bool x61.cut), .sc (.bool x61.want), .sc (.bool x61.can), .sc (.int .i64 x61.code), .sc (.string x61.q.name), .sc (.int .i64 x61.q.ty), .ref (79, 9) 0 x61.an.length, .ref (79, 10) 0 x61.au.length, .ref (79, 11) 0 x61.ad.length]) rfl rfl cl54 (wi_Serve x57 x59 x61 q62) rfl (.cons (relAggL (.cons (.free rfl) (.cons (lendL rfl (.head _) rfl recV_free recV_len) .nil))) (.cons (relAggL (.cons (.free rfl) (.cons (.free rfl) (.cons (.free rfl) (.cons (.free rfl) (.cons (.free rfl) (.cons (.free rfl) (.cons (.free rfl) (.cons (.free rfl) (.cons (.free rfl) (.cons (lendL rfl (.tail _ (.head _)) rfl recV_free recV_len) (.cons (lendL rfl (.tail _ (.tail _ (.head _))) rfl recV_free recV_len) (.cons (lendL rfl (.tail _ (.tail _ (.tail _ (.head _)))) rfl recV_free recV_len) .nil))))))))))))) .nil)) trivial memNil .nil (fun _ _ => List.not_mem_nil) rfl ⟨(allSc_map recV_sc), ⟨(allSc_map recV_sc), ⟨(allSc_map recV_sc), trivial⟩⟩⟩ memNil rfl (by simp only [V.mat, V.mat1, V.mat0, matL, matT, List.length_map]) rfl rfl rfl rfl ?_
                    refine s_alloc rfl rfl rfl zc72 rfl rfl rfl rfl rfl ?_
                    refine s_storeB rfl rfl rfl ty72 rfl rfl rfl rfl rfl ?_
                    refine rt_nil ⟨by kernel_rfl, ?_⟩
                    refine tri_seq ?_
                    refine tri_seq ?_
                    refine tri_region ?_
                    refine s_loadR rfl rfl rfl rfl ty72 rfl rfl rfl ?_
                    refine s_loadR rfl rfl rfl rfl ty72 rfl rfl rfl ?_
                    refine bnd1_elim h fun x63 q64 h => ?_
                    refine s_callN (kb := [(79, 9), (79, 10), (79, 11), (28, 9), (28, 10), (28, 11)]) (ns := []) (v := .sc (.bool x63)) rfl rfl cl55 (ww_eqMsg x61 x11 x63 q64) rfl (.cons (relAggL (.cons (.free rfl) (.cons (.free rfl) (.cons (.free rfl) (.cons (.free rfl) (.cons (.free rfl) (.cons (.free rfl) (.cons (.free rfl) (.cons (.free rfl) (.cons (.free rfl) (.cons (lendL rfl (.head _) rfl recV_free recV_len) (.cons (lendL rfl (.tail _ (.head _)) rfl recV_free recV_len) (.cons (lendL rfl (.tail _ (.tail _ (.head _))) rfl recV_free recV_len) .nil))))))))))))) (.cons (relAggL (.cons (.free rfl) (.cons (.free rfl) (.cons (.free rfl) (.cons (.free rfl) (.cons (.free rfl) (.cons (.free rfl) (.cons (.free rfl) (.cons (.free rfl) (.cons (.free rfl) (.cons (lendL rfl (.tail _ (.tail _ (.tail _ (.head _)))) rfl recV_free recV_len) (.cons (lendL rfl (.tail _ (.tail _ (.tail _ (.tail _ (.head _))))) rfl recV_free recV_len) (.cons (lendL rfl (.tail _ (.tail _ (.tail _ (.tail _ (.tail _ (.head _)))))) rfl recV_free recV_len) .nil))))))))))))) .nil)) trivial memNil .nil (fun _ _ => List.not_mem_nil) rfl trivial memNil rfl rfl rfl rfl rfl rfl ?_
                    refine s_of (st_not rfl rfl) rfl rfl rfl rfl ?_
                    refine rt_nil ?_
                    refine tri_cond rfl (fun c65 => ?_) (fun c65 => ?_)
                    · replace h := cond_t h c65
                      refine tri_seq ?_
                      refine tri_region ?_
                      refine s_mv (.inr rfl) (v := .sc (.bool false)) rfl rfl rfl rfl ?_
                      refine rt_nil ?_
                      refine tri_ret ?_
                      have e0 := (some1 h); subst e0
                      exact endY [] [] (rvC (resTmp rfl) rvN) trivial trivial rfl rfl rfl rfl (.free rfl)
                    · replace h := cond_f h c65
                      refine tri_skip ?_
                      refine tri_seq ?_
                      refine tri_region ?_
                      refine s_mv (.inr rfl) (v := .sc (.int .i64 1)) rfl rfl rfl rfl ?_
                      refine rt_nil ?_
                      refine tri_seq ?_
                      refine tri_region ?_
                      refine s_loadR rfl rfl rfl rfl ty72 rfl rfl rfl ?_
                      refine s_mv (.inl rfl) (by conv => lhs; whnf) rfl rfl rfl ?_
                      refine bnd1_elim h fun x66 q67 h => ?_
                      refine s_callN (kb := [(35, 9), (35, 10), (35, 11)]) (ns := []) (v := .sc (.int .i64 x66)) rfl rfl cl57 (ww_heldMsg (MMsg.mk x17.id x17.reply x17.auth x17.cut x17.want x17.can x17.code x17.q x46 x47 x48) 1 x66 q67) rfl (.cons (relAggL (.cons (.free rfl) (.cons (.free rfl) (.cons (.free rfl) (.cons (.free rfl) (.cons (.free rfl) (.cons (.free rfl) (.cons (.free rfl) (.cons (.free rfl) (.cons (.free rfl) (.cons (lendL rfl (.head _) (by simp only [List.length_set, g50]) recV_free recV_len) (.cons (lendL rfl (.tail _ (.head _)) (by simp only [List.length_set, g51]) recV_free recV_len) (.cons (lendL rfl (.tail _ (.tail _ (.head _))) (by simp only [List.length_set, g52]) recV_free recV_len) .nil))))))))))))) (.cons (.free rfl) .nil)) trivial memNil .nil (fun _ _ => List.not_mem_nil) rfl trivial memNil rfl rfl rfl rfl rfl rfl ?_
                      refine s_mv (.inr rfl) (by conv => lhs; whnf) rfl rfl rfl ?_
                      refine rt_nil ?_
                      refine tri_seq ?_
                      refine tri_seq ?_
                      refine tri_region ?_
                      refine s_mv (.inl rfl) (by conv => lhs; whnf) rfl rfl rfl ?_
                      refine s_of (st_lss rfl rfl rfl) rfl rfl rfl rfl ?_
                      refine rt_nil ?_
                      refine tri_cond rfl (fun c68 => ?_) (fun c68 => ?_)
                      · replace h := cond_t h c68
                        refine tri_seq ?_
                        refine tri_region ?_
                        refine s_mv (.inr rfl) (v := .sc (.bool false)) rfl rfl rfl rfl ?_
                        refine rt_nil ?_
                        refine tri_ret ?_
                        have e0 := (some1 h); subst e0
                        exact endY [] [] (rvC (resTmp rfl) rvN) trivial trivial rfl rfl rfl rfl (.free rfl)
                      · replace h := cond_f h c68
                        refine tri_skip ?_
                        refine tri_seq ?_
                        refine tri_seq ?_
                        refine tri_region ?_
                        refine s_mv (.inl rfl) (by conv => lhs; whnf) rfl rfl rfl ?_
                        refine s_mv (.inl rfl) (by conv => lhs; whnf) rfl rfl rfl ?_
                        refine s_of (st_neI rfl rfl rfl) rfl rfl rfl rfl ?_
                        refine rt_nil ?_
                        refine tri_cond rfl (fun c69 => ?_) (fun c69 => ?_)
                        · replace h := cond_t h c69
                          refine tri_seq ?_
                          refine tri_region ?_
                          refine s_mv (.inr rfl) (v := .sc (.bool false)) rfl rfl rfl rfl ?_
                          refine rt_nil ?_
                          refine tri_ret ?_
                          have e0 := (some1 h); subst e0
                          exact endY [] [] (rvC (resTmp rfl) rvN) trivial trivial rfl rfl rfl rfl (.free rfl)
                        · replace h := cond_f h c69
                          refine tri_skip ?_
                          refine tri_seq ?_
                          refine tri_region ?_
                          refine s_mv (.inr rfl) (v := .sc (.bool true)) rfl rfl rfl rfl ?_
                          refine rt_nil ?_
                          refine tri_ret ?_
                          have e0 := (some1 h); subst e0
                          exact endY [] [] (rvC (resTmp rfl) rvN) trivial trivial rfl rfl rfl rfl (.free rfl)

end Go.Abs.M
