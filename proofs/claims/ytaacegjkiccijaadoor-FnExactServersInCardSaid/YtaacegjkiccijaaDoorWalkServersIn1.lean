/- Walks of the functions that the law of ServersIn reaches: what each of them computes, where its pure function does not fail. -/
import Derived.Test.YtaacegjkiccijaaDoorWalkServersIn0
namespace Go.Abs.M
open Go Go.Abs Go.Proofs
theorem cl21 : callable Tryd.prog 21 = true := by kernel_rfl
theorem cl23 : callable Tryd.prog 23 = true := by kernel_rfl
theorem cl25 : callable Tryd.prog 25 = true := by kernel_rfl
theorem cl36 : callable Tryd.prog 36 = true := by kernel_rfl
theorem cl37 : callable Tryd.prog 37 = true := by kernel_rfl
theorem cl39 : callable Tryd.prog 39 = true := by kernel_rfl
theorem cl41 : callable Tryd.prog 41 = true := by kernel_rfl
theorem ty38 : tyK Tryd.prog 38 = some (true, 12) := by kernel_rfl
/- laws.FnExactServersIn -/
def inv_w_FnExactServersIn_0 (p0 : MMsg) (p1 : ByteArray) (x7 : List Rec) (x11 : List Rec) (j0_0 : Bool) : St := mkT 77 [(1, .sc (.string p1)), (2, .ptr (2, 0) 0 0), (6, .ref (24, 0) 0 x7.length), (8, .ref (29, 0) 0 x11.length), (49, .sc (.bool j0_0))] [((2, 0), some ⟨38, 12, [[.sc (.int .i64 p0.id), .sc (.bool p0.reply), .sc (.bool p0.auth), .sc (.bool p0.cut), .sc (.bool p0.want), .sc (.bool p0.can), .sc (.int .i64 p0.code), .sc (.string p0.q.name), .sc (.int .i64 p0.q.ty), .lst 6 (List.map recV p0.an), .lst 6 (List.map recV p0.au), .lst 6 (List.map recV p0.ad)]], false, true⟩), ((24, 0), some ⟨61, 6, List.map recV x7, false, true⟩), ((29, 0), some ⟨61, 6, List.map recV x11, false, true⟩)]
set_option maxRecDepth 4000 in
set_option maxHeartbeats 800000 in
theorem ww_FnExactServersIn (p0 : MMsg) (p1 : ByteArray) (r0 : Bool) (h : w_FnExactServersIn p0 p1 = some r0) : Runs Tryd.prog 10 [.agg (mMsgV p0), .sc (.string p1)] [] (.sc (.bool r0)) [] := by
  unfold w_FnExactServersIn at h
  refine runsR [.tmp 4] Tryd.func10 rfl rfl rfl rfl ?_
  rw [Tryd.ntmps10]
  refine tri_seq ?_
  refine tri_region ?_
  refine s_box rfl rfl rfl rfl rfl rfl rfl ?_
  refine s_mv (.inr rfl) (v := .sc (.bool false)) rfl rfl rfl rfl ?_
  refine rt_nil ?_
  refine tri_seq ?_
  refine tri_seq ?_
  refine tri_region ?_
  refine s_mv (.inl rfl) (by conv => lhs; whnf) rfl rfl rfl ?_
  refine s_of (st_lenS rfl rfl iss9) rfl rfl rfl rfl ?_
  refine s_of (st_gtr rfl rfl rfl) rfl rfl rfl rfl ?_
  refine rt_nil ?_
  refine tri_cond rfl (fun c1 => ?_) (fun c1 => ?_)
  · replace h := cond_t h c1
    refine tri_seq ?_
    refine tri_region ?_
    refine s_mv (.inr rfl) (v := .sc (.bool true)) rfl rfl rfl rfl ?_
    refine rt_nil ?_
    refine tri_ret ?_
    have e0 := (some1 h); subst e0
    exact endY [] [] (rvC (resTmp rfl) rvN) trivial trivial rfl rfl rfl rfl (.free rfl)
  · replace h := cond_f h c1
    refine tri_skip ?_
    refine tri_seq ?_
    refine tri_region ?_
    refine s_mv (.inr rfl) (v := .sc (.int .i64 1048576)) rfl rfl rfl rfl ?_
    refine rt_nil ?_
    refine tri_seq ?_
    refine tri_region ?_
    refine s_loadR rfl rfl rfl rfl ty38 rfl rfl rfl ?_
    refine s_mv (.inl rfl) (by conv => lhs; whnf) rfl rfl rfl ?_
    refine bnd1_elim h fun x2 q3 h => ?_
    refine s_callN (kb := []) (ns := []) (v := .sc (.int .i64 x2)) rfl rfl cl21 (ww_szMsg p0 1048576 x2 q3) rfl (.cons (relAgg rfl) (.cons (.free rfl) .nil)) trivial memNil .nil memNil rfl trivial memNil rfl rfl rfl rfl rfl rfl ?_
    refine s_mv (.inr rfl) (by conv => lhs; whnf) rfl rfl rfl ?_
    refine rt_nil ?_
    refine tri_seq ?_
    refine tri_seq ?_
    refine tri_region ?_
    refine s_mv (.inl rfl) (by conv => lhs; whnf) rfl rfl rfl ?_
    refine s_of (st_lss rfl rfl rfl) rfl rfl rfl rfl ?_
    refine rt_nil ?_
    refine tri_cond rfl (fun c4 => ?_) (fun c4 => ?_)
    · replace h := cond_t h c4
      refine tri_seq ?_
      refine tri_region ?_
      refine s_mv (.inr rfl) (v := .sc (.bool true)) rfl rfl rfl rfl ?_
      refine rt_nil ?_
      refine tri_ret ?_
      have e0 := (some1 h); subst e0
      exact endY [] [] (rvC (resTmp rfl) rvN) trivial trivial rfl rfl rfl rfl (.free rfl)
    · replace h := cond_f h c4
      refine tri_skip ?_
      refine tri_seq ?_
      refine tri_region ?_
      refine s_loadR rfl rfl rfl rfl ty38 rfl rfl rfl ?_
      refine bnd1_elim h fun x5 q6 h => ?_
      refine s_callN (kb := []) (ns := []) (v := .agg [.sc (.int .i64 x5.id), .sc (.bool x5.reply), .sc (.bool x5.auth), .sc (.bool x5.cut), .sc (.bool x5.want), .sc (.bool x5.can), .sc (.int .i64 x5.code), .sc (.string x5.q.name), .sc (.int .i64 x5.q.ty), .ref (22, 9) 0 x5.an.length, .ref (22, 10) 0 x5.au.length, .ref (22, 11) 0 x5.ad.length]) rfl rfl cl23 (ww_toMsg p0 x5 q6) rfl (.cons (relAgg rfl) .nil) trivial memNil .nil memNil rfl ⟨(allSc_map recV_sc), ⟨(allSc_map recV_sc), ⟨(allSc_map recV_sc), trivial⟩⟩⟩ memNil rfl (by simp only [V.mat, V.mat1, V.mat0, matL, matT, List.length_map]) rfl rfl rfl rfl ?_
      refine s_mv (.inl rfl) (by conv => lhs; whnf) rfl rfl rfl ?_
      refine bnd1_elim h fun x7 q8 h => ?_
      refine s_callN (kb := [(22, 9), (22, 10), (22, 11)]) (ns := []) (v := .ref (24, 0) 0 x7.length) rfl rfl cl36 (ws_ServersIn x5 p1 x7 q8) rfl (.cons (relAggL (.cons (.free rfl) (.cons (.free rfl) (.cons (.free rfl) (.cons (.free rfl) (.cons (.free rfl) (.cons (.free rfl) (.cons (.free rfl) (.cons (.free rfl) (.cons (.free rfl) (.cons (lendL rfl (.head _) rfl recV_free recV_len) (.cons (lendL rfl (.tail _ (.head _)) rfl recV_free recV_len) (.cons (lendL rfl (.tail _ (.tail _ (.head _))) rfl recV_free recV_len) .nil))))))))))))) (.cons (.free rfl) .nil)) trivial memNil .nil (fun _ _ => List.not_mem_nil) rfl ⟨(allSc_map recV_sc), trivial⟩ memNil rfl (by simp only [V.mat, V.mat1, V.mat0, matL, matT, List.length_map]) rfl rfl rfl rfl ?_
      refine s_mv (.inr rfl) (by conv => lhs; whnf) rfl rfl rfl ?_
      refine rt_nil ?_
      refine tri_seq ?_
      refine tri_region ?_
      refine s_loadR rfl rfl rfl rfl ty38 rfl rfl rfl ?_
      refine bnd1_elim h fun x9 q10 h => ?_
      refine s_callN (kb := []) (ns := []) (v := .agg [.sc (.int .i64 x9.id), .sc (.bool x9.reply), .sc (.bool x9.auth), .sc (.bool x9.cut), .sc (.bool x9.want), .sc (.bool x9.can), .sc (.int .i64 x9.code), .sc (.string x9.q.name), .sc (.int .i64 x9.q.ty), .ref (26, 9) 0 x9.an.length, .ref (26, 10) 0 x9.au.length, .ref (26, 11) 0 x9.ad.length]) rfl rfl cl23 (ww_toMsg p0 x9 q10) rfl (.cons (relAgg rfl) .nil) trivial memNil .nil memNil rfl ⟨(allSc_map recV_sc), ⟨(allSc_map recV_sc), ⟨(allSc_map recV_sc), trivial⟩⟩⟩ memNil rfl (by simp only [V.mat, V.mat1, V.mat0, matL, matT, List.length_map]) rfl rfl rfl rfl ?_
      refine s_alloc rfl rfl rfl zc43 rfl rfl rfl rfl rfl ?_
      refine s_storeB rfl rfl rfl ty43 rfl rfl rfl rfl rfl ?_
      refine rt_nil ?_
      refine tri_seq ?_
      refine tri_region ?_
      refine s_loadR rfl rfl rfl rfl ty43 rfl rfl rfl ?_
      refine s_mv (.inl rfl) (by conv => lhs; whnf) rfl rfl rfl ?_
      refine bnd1_elim h fun x11 q12 h => ?_
      refine s_callN (kb := [(26, 9), (26, 10), (26, 11)]) (ns := []) (v := .ref (29, 0) 0 x11.length) rfl rfl cl37 (wi_ServersIn x9 p1 x11 q12) rfl (.cons (relAggL (.cons (.free rfl) (.cons (.free rfl) (.cons (.free rfl) (.cons (.free rfl) (.cons (.free rfl) (.cons (.free rfl) (.cons (.free rfl) (.cons (.free rfl) (.cons (.free rfl) (.cons (lendL rfl (.head _) rfl recV_free recV_len) (.cons (lendL rfl (.tail _ (.head _)) rfl recV_free recV_len) (.cons (lendL rfl (.tail _ (.tail _ (.head _))) rfl recV_free recV_len) .nil))))))))))))) (.cons (.free rfl) .nil)) trivial memNil .nil (fun _ _ => List.not_mem_nil) rfl ⟨(allSc_map recV_sc), trivial⟩ memNil rfl (by simp only [V.mat, V.mat1, V.mat0, matL, matT, List.length_map]) rfl rfl rfl rfl ?_
      refine s_mv (.inr rfl) (by conv => lhs; whnf) rfl rfl rfl ?_
      refine rt_nil ?_
      refine tri_seq ?_
      refine tri_seq ?_
      refine tri_region ?_
      refine s_mv (.inl rfl) (by conv => lhs; whnf) rfl rfl rfl ?_
      refine s_mv (.inl rfl) (by conv => lhs; whnf) rfl rfl rfl ?_
      refine bnd1_elim h fun x13 q14 h => ?_
      refine s_callN (kb := [(29, 0), (24, 0)]) (ns := []) (v := .sc (.bool x13)) rfl rfl cl38 (ww_eqRecordS x11 x7 x13 q14) rfl (.cons (lendL rfl (.head _) rfl recV_free recV_len) (.cons (lendL rfl (.tail _ (.head _)) rfl recV_free recV_len) .nil)) trivial memNil .nil (fun _ _ => List.not_mem_nil) rfl trivial memNil rfl rfl rfl rfl rfl rfl ?_
      refine s_of (st_not rfl rfl) rfl rfl rfl rfl ?_
      refine rt_nil ?_
      refine tri_cond rfl (fun c15 => ?_) (fun c15 => ?_)
      · replace h := cond_t h c15
        refine tri_seq ?_
        refine tri_region ?_
        refine s_mv (.inr rfl) (v := .sc (.bool false)) rfl rfl rfl rfl ?_
        refine rt_nil ?_
        refine tri_ret ?_
        have e0 := (some1 h); subst e0
        exact endY [] [] (rvC (resTmp rfl) rvN) trivial trivial rfl rfl rfl rfl (.free rfl)
      · replace h := cond_f h c15
        refine tri_skip ?_
        refine tri_seq ?_
        refine tri_seq ?_
        refine tri_draw mixed ?_
        refine s_loadR rfl rfl rfl rfl ty43 rfl rfl rfl ?_
        refine s_loadR rfl rfl rfl rfl ty38 rfl rfl rfl ?_
        refine bnd1_elim h fun x16 q17 h => ?_
        refine s_callN (kb := []) (ns := []) (v := .agg [.sc (.int .i64 x16.id), .sc (.bool x16.reply), .sc (.bool x16.auth), .sc (.bool x16.cut), .sc (.bool x16.want), .sc (.bool x16.can), .sc (.int .i64 x16.code), .sc (.string x16.q.name), .sc (.int .i64 x16.q.ty), .ref (36, 9) 0 x16.an.length, .ref (36, 10) 0 x16.au.length, .ref (36, 11) 0 x16.ad.length]) rfl rfl cl23 (ww_toMsg p0 x16 q17) rfl (.cons (relAgg rfl) .nil) trivial memNil .nil memNil rfl ⟨(allSc_map recV_sc), ⟨(allSc_map recV_sc), ⟨(allSc_map recV_sc), trivial⟩⟩⟩ memNil rfl (by simp only [V.mat, V.mat1, V.mat0, matL, matT, List.length_map]) rfl rfl rfl rfl ?_
        refine bnd1_elim h fun x18 q19 h => ?_
        refine s_callN (kb := [(26, 9), (26, 10), (26, 11), (36, 9), (36, 10), (36, 11)]) (ns := []) (v := .sc (.bool x18)) rfl rfl cl25 (ww_eqMsg x9 x16 x18 q19) rfl (.cons (relAggL (.cons (.free rfl) (.cons (.free rfl) (.cons (.free rfl) (.cons (.free rfl) (.cons (.free rfl) (.cons (.free rfl) (.cons (.free rfl) (.cons (.free rfl) (.cons (.free rfl) (.cons (lendL rfl (.head _) rfl recV_free recV_len) (.cons (lendL rfl (.tail _ (.head _)) rfl recV_free recV_len) (.cons (lendL rfl (.tail _ (.tail _ (.head _))) rfl recV_free recV_len) .nil))))))))))))) (.cons (relAggL (.cons (.free rfl) (.cons (.free rfl) (.cons (.free rfl) (.cons (.free rfl) (.cons (.free rfl) (.cons (.free rfl) (.cons (.free rfl) (.cons (.free rfl) (.cons (.free rfl) (.cons (lendL rfl (.tail _ (.tail _ (.tail _ (.head _)))) rfl recV_free recV_len) (.cons (lendL rfl (.tail _ (.tail _ (.tail _ (.tail _ (.head _))))) rfl recV_free recV_len) (.cons (lendL rfl (.tail _ (.tail _ (.tail _ (.tail _ (.tail _ (.head _)))))) rfl recV_free recV_len) .nil))))))))))))) .nil)) trivial memNil .nil (fun _ _ => List.not_mem_nil) rfl trivial memNil rfl rfl rfl rfl rfl rfl ?_
        refine s_of (st_not rfl rfl) rfl rfl rfl rfl ?_
        refine rt_nil ⟨by kernel_rfl, ?_⟩
        refine tri_cond rfl (fun c20 => ?_) (fun c20 => ?_)
        · replace h := cond_t h c20
          refine tri_seq ?_
          refine tri_region ?_
          refine s_mv (.inr rfl) (v := .sc (.bool false)) rfl rfl rfl rfl ?_
          refine rt_nil ?_
          refine tri_ret ?_
          have e0 := (some1 h); subst e0
          exact endY [] [] (rvC (resTmp rfl) rvN) trivial trivial rfl rfl rfl rfl (.free rfl)
        · replace h := cond_f h c20
          refine tri_skip ?_
          refine tri_seq ?_
          refine tri_region ?_
          refine s_mv (.inr rfl) (v := .sc (.int .i64 1)) rfl rfl rfl rfl ?_
          refine rt_nil ?_
          refine tri_seq ?_
          refine tri_region ?_
          refine s_loadR rfl rfl rfl rfl ty43 rfl rfl rfl ?_
          refine s_mv (.inl rfl) (by conv => lhs; whnf) rfl rfl rfl ?_
          refine bnd4_elim h fun x21 x22 x23 x24 q25 h => ?_
          refine grd_elim h fun g26 h => ?_
          refine grd_elim h fun g27 h => ?_
          refine grd_elim h fun g28 h => ?_
          refine s_callN (kb := []) (ns := [(26, 9), (26, 10), (26, 11)]) (v := .sc (.int .i64 x21)) rfl rfl cl39 (ww_markMsg x9 1 x21 x22 x23 x24 q25) rfl (.cons (relAggL (.cons (.free rfl) (.cons (.free rfl) (.cons (.free rfl) (.cons (.free rfl) (.cons (.free rfl) (.cons (.free rfl) (.cons (.free rfl) (.cons (.free rfl) (.cons (.free rfl) (.cons (.refOwn rfl) (.cons (.refOwn rfl) (.cons (.refOwn rfl) .nil))))))))))))) (.cons (.free rfl) .nil)) ⟨⟨_, rfl, rfl⟩, ⟨⟨_, rfl, rfl⟩, ⟨⟨_, rfl, rfl⟩, trivial⟩⟩⟩ (memCons (allFree_map recV_free) (memCons (allFree_map recV_free) (memCons (allFree_map recV_free) memNil))) (by decide) memNil rfl trivial (memCons (allSc_map recV_sc) (memCons (allSc_map recV_sc) (memCons (allSc_map recV_sc) memNil))) rfl rfl rfl rfl rfl rfl ?_
          refine s_mv (.inr rfl) (by conv => lhs; whnf) rfl rfl rfl ?_
          refine rt_nil ?_
          refine tri_seq ?_
          refine tri_cutI (ι := { p : Bool // w_FnExactServersIn_j0 p0 p1 x7 x11 p = some r0 }) (fun p => inv_w_FnExactServersIn_0 p0 p1 x7 x11 p.1) ?_ ?_
          · skip
            refine tri_region ?_
            refine s_mv (.inl rfl) (by conv => lhs; whnf) rfl rfl rfl ?_
            refine s_of (st_lss rfl rfl rfl) rfl rfl rfl rfl ?_
            refine s_mv (.inl rfl) (by conv => lhs; whnf) rfl rfl rfl ?_
            refine s_split (t := 44) rfl (fun b29 => ?_) (fun b29 => ?_)
            · replace h := cond_t h b29
              refine s_skip rfl rfl rfl ?_
              refine s_skip rfl rfl rfl ?_
              refine s_skip rfl rfl rfl ?_
              refine s_skip rfl rfl rfl ?_
              refine s_pickT rfl rfl (v := .sc (.bool true)) rfl rfl rfl rfl ?_
              refine rt_nil ?_
              refine Exists.intro ⟨true, h⟩ ?_
              refine entX [((2, 0), ⟨38, 12, [[.sc (.int .i64 p0.id), .sc (.bool p0.reply), .sc (.bool p0.auth), .sc (.bool p0.cut), .sc (.bool p0.want), .sc (.bool p0.can), .sc (.int .i64 p0.code), .sc (.string p0.q.name), .sc (.int .i64 p0.q.ty), .lst 6 (List.map recV p0.an), .lst 6 (List.map recV p0.au), .lst 6 (List.map recV p0.ad)]], false, true⟩, some (2, 0)), ((24, 0), ⟨61, 6, List.map recV x7, false, true⟩, some (24, 0)), ((29, 0), ⟨61, 6, List.map recV x11, false, true⟩, some (29, 0))] [] ⟨⟨rfl, _, rfl, rfl, rfl, rfl, id, rowsCv_one (.cons (.free rfl) (.cons (.free rfl) (.cons (.free rfl) (.cons (.free rfl) (.cons (.free rfl) (.cons (.free rfl) (.cons (.free rfl) (.cons (.free rfl) (.cons (.free rfl) (.cons (.free rfl) (.cons (.free rfl) (.cons (.free rfl) .nil)))))))))))), rowsZ_one rfl⟩, ⟨rfl, _, rfl, rfl, rfl, rfl, id, rowsCv_eq rfl (allFree_map recV_free), rowsZ_map recV_len⟩, ⟨rfl, _, rfl, rfl, rfl, rfl, id, rowsCv_eq rfl (allFree_map recV_free), rowsZ_map recV_len⟩, trivial⟩ trivial rfl rfl ?_
              exact ⟨(.free rfl), (.ptr rfl), (.ref rfl), (.ref rfl), (.free rfl), trivial⟩
            · replace h := cond_f h b29
              refine s_mv (.inl rfl) (by conv => lhs; whnf) rfl rfl rfl ?_
              refine s_mv (.inl rfl) (by conv => lhs; whnf) rfl rfl rfl ?_
              refine bnd1_elim h fun x30 q31 h => ?_
              refine s_callN (kb := [(29, 0), (24, 0)]) (ns := []) (v := .sc (.bool x30)) rfl rfl cl38 (ww_eqRecordS x11 x7 x30 q31) rfl (.cons (lendL rfl (.head _) rfl recV_free recV_len) (.cons (lendL rfl (.tail _ (.head _)) rfl recV_free recV_len) .nil)) trivial memNil .nil (fun _ _ => List.not_mem_nil) rfl trivial memNil rfl rfl rfl rfl rfl rfl ?_
              refine s_of (st_not rfl rfl) rfl rfl rfl rfl ?_
              refine s_pickF rfl rfl (by conv => lhs; whnf) rfl rfl rfl ?_
              refine rt_nil ?_
              refine Exists.intro ⟨!x30, h⟩ ?_
              refine entX [((2, 0), ⟨38, 12, [[.sc (.int .i64 p0.id), .sc (.bool p0.reply), .sc (.bool p0.auth), .sc (.bool p0.cut), .sc (.bool p0.want), .sc (.bool p0.can), .sc (.int .i64 p0.code), .sc (.string p0.q.name), .sc (.int .i64 p0.q.ty), .lst 6 (List.map recV p0.an), .lst 6 (List.map recV p0.au), .lst 6 (List.map recV p0.ad)]], false, true⟩, some (2, 0)), ((24, 0), ⟨61, 6, List.map recV x7, false, true⟩, some (24, 0)), ((29, 0), ⟨61, 6, List.map recV x11, false, true⟩, some (29, 0))] [] ⟨⟨rfl, _, rfl, rfl, rfl, rfl, id, rowsCv_one (.cons (.free rfl) (.cons (.free rfl) (.cons (.free rfl) (.cons (.free rfl) (.cons (.free rfl) (.cons (.free rfl) (.cons (.free rfl) (.cons (.free rfl) (.cons (.free rfl) (.cons (.free rfl) (.cons (.free rfl) (.cons (.free rfl) .nil)))))))))))), rowsZ_one rfl⟩, ⟨rfl, _, rfl, rfl, rfl, rfl, id, rowsCv_eq rfl (allFree_map recV_free), rowsZ_map recV_len⟩, ⟨rfl, _, rfl, rfl, rfl, rfl, id, rowsCv_eq rfl (allFree_map recV_free), rowsZ_map recV_len⟩, trivial⟩ trivial rfl rfl ?_
              exact ⟨(.free rfl), (.ptr rfl), (.ref rfl), (.ref rfl), (.free rfl), trivial⟩
          · rintro ⟨j0_0, h⟩
            replace h : w_FnExactServersIn_j0 p0 p1 x7 x11 j0_0 = some r0 := h
            unfold w_FnExactServersIn_j0 at h
            show Tri _ _ _ (inv_w_FnExactServersIn_0 p0 p1 x7 x11 j0_0)
            refine tri_cond rfl (fun c29 => ?_) (fun c29 => ?_)
            · replace h := cond_t h c29
              refine tri_seq ?_
              refine tri_region ?_
              refine s_mv (.inr rfl) (v := .sc (.bool false)) rfl rfl rfl rfl ?_
              refine rt_nil ?_
              refine tri_ret ?_
              have e0 := (some1 h); subst e0
              exact endY [] [] (rvC (resTmp rfl) rvN) trivial trivial rfl rfl rfl rfl (.free rfl)
            · replace h := cond_f h c29
              refine tri_skip ?_
              refine tri_seq ?_
              refine tri_region ?_
              refine s_mv (.inr rfl) (v := .sc (.int .i64 1)) rfl rfl rfl rfl ?_
              refine rt_nil ?_
              refine tri_seq ?_
              refine tri_region ?_
              refine s_mv (.inl rfl) (by conv => lhs; whnf) rfl rfl rfl ?_
              refine s_mv (.inl rfl) (by conv => lhs; whnf) rfl rfl rfl ?_
              refine bnd2_elim h fun x30 x31 q32 h => ?_
              refine grd_elim h fun g33 h => ?_
              refine s_callN (kb := []) (ns := [(29, 0)]) (v := .sc (.int .i64 x30)) rfl rfl cl40 (ww_markRecordS x11 1 x30 x31 q32) rfl (.cons (.refOwn rfl) (.cons (.free rfl) .nil)) ⟨⟨_, rfl, rfl⟩, trivial⟩ (memCons (allFree_map recV_free) memNil) (List.nodup_cons.2 ⟨List.not_mem_nil, .nil⟩) memNil rfl trivial (memCons (allSc_map recV_sc) memNil) rfl rfl rfl rfl rfl rfl ?_
              refine s_mv (.inr rfl) (by conv => lhs; whnf) rfl rfl rfl ?_
              refine rt_nil ?_
              refine tri_seq ?_
              refine tri_region ?_
              refine s_mv (.inr rfl) (v := .sc (.int .i64 1)) rfl rfl rfl rfl ?_
              refine rt_nil ?_
              refine tri_seq ?_
              refine tri_region ?_
              refine s_mv (.inl rfl) (by conv => lhs; whnf) rfl rfl rfl ?_
              refine s_mv (.inl rfl) (by conv => lhs; whnf) rfl rfl rfl ?_
              refine bnd1_elim h fun x34 q35 h => ?_
              refine s_callN (kb := [(29, 0)]) (ns := []) (v := .sc (.int .i64 x34)) rfl rfl cl41 (ww_heldRecordS x31 1 x34 q35) rfl (.cons (lendL rfl (.head _) (by simp only [List.length_set, g33]) recV_free recV_len) (.cons (.free rfl) .nil)) trivial memNil .nil (fun _ _ => List.not_mem_nil) rfl trivial memNil rfl rfl rfl rfl rfl rfl ?_
              refine s_mv (.inr rfl) (by conv => lhs; whnf) rfl rfl rfl ?_
              refine rt_nil ?_
              refine tri_seq ?_
              refine tri_seq ?_
              refine tri_region ?_
              refine s_mv (.inl rfl) (by conv => lhs; whnf) rfl rfl rfl ?_
              refine s_of (st_lss rfl rfl rfl) rfl rfl rfl rfl ?_
              refine rt_nil ?_
              refine tri_cond rfl (fun c36 => ?_) (fun c36 => ?_)
              · replace h := cond_t h c36
                refine tri_seq ?_
                refine tri_region ?_
                refine s_mv (.inr rfl) (v := .sc (.bool false)) rfl rfl rfl rfl ?_
                refine rt_nil ?_
                refine tri_ret ?_
                have e0 := (some1 h); subst e0
                exact endY [] [] (rvC (resTmp rfl) rvN) trivial trivial rfl rfl rfl rfl (.free rfl)
              · replace h := cond_f h c36
                refine tri_skip ?_
                refine tri_seq ?_
                refine tri_seq ?_
                refine tri_region ?_
                refine s_mv (.inl rfl) (by conv => lhs; whnf) rfl rfl rfl ?_
                refine s_mv (.inl rfl) (by conv => lhs; whnf) rfl rfl rfl ?_
                refine s_of (st_neI rfl rfl rfl) rfl rfl rfl rfl ?_
                refine rt_nil ?_
                refine tri_cond rfl (fun c37 => ?_) (fun c37 => ?_)
                · replace h := cond_t h c37
                  refine tri_seq ?_
                  refine tri_region ?_
                  refine s_mv (.inr rfl) (v := .sc (.bool false)) rfl rfl rfl rfl ?_
                  refine rt_nil ?_
                  refine tri_ret ?_
                  have e0 := (some1 h); subst e0
                  exact endY [] [] (rvC (resTmp rfl) rvN) trivial trivial rfl rfl rfl rfl (.free rfl)
                · replace h := cond_f h c37
                  refine tri_skip ?_
                  refine tri_seq ?_
                  refine tri_region ?_
                  refine s_loadR rfl rfl rfl rfl ty38 rfl rfl rfl ?_
                  refine bnd1_elim h fun x38 q39 h => ?_
                  refine s_callN (kb := []) (ns := []) (v := .agg [.sc (.int .i64 x38.id), .sc (.bool x38.reply), .sc (.bool x38.auth), .sc (.bool x38.cut), .sc (.bool x38.want), .sc (.bool x38.can), .sc (.int .i64 x38.code), .sc (.string x38.q.name), .sc (.int .i64 x38.q.ty), .ref (62, 9) 0 x38.an.length, .ref (62, 10) 0 x38.au.length, .ref (62, 11) 0 x38.ad.length]) rfl rfl cl23 (ww_toMsg p0 x38 q39) rfl (.cons (relAgg rfl) .nil) trivial memNil .nil memNil rfl ⟨(allSc_map recV_sc), ⟨(allSc_map recV_sc), ⟨(allSc_map recV_sc), trivial⟩⟩⟩ memNil rfl (by simp only [V.mat, V.mat1, V.mat0, matL, matT, List.length_map]) rfl rfl rfl rfl ?_
                  refine s_mv (.inl rfl) (by conv => lhs; whnf) rfl rfl rfl ?_
                  refine bnd1_elim h fun x40 q41 h => ?_
                  refine s_callN (kb := [(62, 9), (62, 10), (62, 11)]) (ns := []) (v := .ref (64, 0) 0 x40.length) rfl rfl cl37 (wi_ServersIn x38 p1 x40 q41) rfl (.cons (relAggL (.cons (.free rfl) (.cons (.free rfl) (.cons (.free rfl) (.cons (.free rfl) (.cons (.free rfl) (.cons (.free rfl) (.cons (.free rfl) (.cons (.free rfl) (.cons (.free rfl) (.cons (lendL rfl (.head _) rfl recV_free recV_len) (.cons (lendL rfl (.tail _ (.head _)) rfl recV_free recV_len) (.cons (lendL rfl (.tail _ (.tail _ (.head _))) rfl recV_free recV_len) .nil))))))))))))) (.cons (.free rfl) .nil)) trivial memNil .nil (fun _ _ => List.not_mem_nil) rfl ⟨(allSc_map recV_sc), trivial⟩ memNil rfl (by simp only [V.mat, V.mat1, V.mat0, matL, matT, List.length_map]) rfl rfl rfl rfl ?_
                  refine s_mv (.inr rfl) (by conv => lhs; whnf) rfl rfl rfl ?_
                  refine rt_nil ?_
                  refine tri_seq ?_
                  refine tri_seq ?_
                  refine tri_region ?_
                  refine s_mv (.inl rfl) (by conv => lhs; whnf) rfl rfl rfl ?_
                  refine s_mv (.inl rfl) (by conv => lhs; whnf) rfl rfl rfl ?_
                  refine bnd1_elim h fun x42 q43 h => ?_
                  refine s_callN (kb := [(64, 0), (24, 0)]) (ns := []) (v := .sc (.bool x42)) rfl rfl cl38 (ww_eqRecordS x40 x7 x42 q43) rfl (.cons (lendL rfl (.head _) rfl recV_free recV_len) (.cons (lendL rfl (.tail _ (.head _)) rfl recV_free recV_len) .nil)) trivial memNil .nil (fun _ _ => List.not_mem_nil) rfl trivial memNil rfl rfl rfl rfl rfl rfl ?_
                  refine s_of (st_not rfl rfl) rfl rfl rfl rfl ?_
                  refine rt_nil ?_
                  refine tri_cond rfl (fun c44 => ?_) (fun c44 => ?_)
                  · replace h := cond_t h c44
                    refine tri_seq ?_
                    refine tri_region ?_
                    refine s_mv (.inr rfl) (v := .sc (.bool false)) rfl rfl rfl rfl ?_
                    refine rt_nil ?_
                    refine tri_ret ?_
                    have e0 := (some1 h); subst e0
                    exact endY [] [] (rvC (resTmp rfl) rvN) trivial trivial rfl rfl rfl rfl (.free rfl)
                  · replace h := cond_f h c44
                    refine tri_skip ?_
                    refine tri_seq ?_
                    refine tri_region ?_
                    refine s_mv (.inr rfl) (v := .sc (.int .i64 1)) rfl rfl rfl rfl ?_
                    refine rt_nil ?_
                    refine tri_seq ?_
                    refine tri_region ?_
                    refine s_mv (.inl rfl) (by conv => lhs; whnf) rfl rfl rfl ?_
                    refine s_mv (.inl rfl) (by conv => lhs; whnf) rfl rfl rfl ?_
                    refine bnd1_elim h fun x45 q46 h => ?_
                    refine s_callN (kb := [(29, 0)]) (ns := []) (v := .sc (.int .i64 x45)) rfl rfl cl41 (ww_heldRecordS x31 1 x45 q46) rfl (.cons (lendL rfl (.head _) (by simp only [List.length_set, g33]) recV_free recV_len) (.cons (.free rfl) .nil)) trivial memNil .nil (fun _ _ => List.not_mem_nil) rfl trivial memNil rfl rfl rfl rfl rfl rfl ?_
                    refine s_mv (.inr rfl) (by conv => lhs; whnf) rfl rfl rfl ?_
                    refine rt_nil ?_
                    refine tri_seq ?_
                    refine tri_seq ?_
                    refine tri_region ?_
                    refine s_mv (.inl rfl) (by conv => lhs; whnf) rfl rfl rfl ?_
                    refine s_of (st_lss rfl rfl rfl) rfl rfl rfl rfl ?_
                    refine rt_nil ?_
                    refine tri_cond rfl (fun c47 => ?_) (fun c47 => ?_)
                    · replace h := cond_t h c47
                      refine tri_seq ?_
                      refine tri_region ?_
                      refine s_mv (.inr rfl) (v := .sc (.bool false)) rfl rfl rfl rfl ?_
                      refine rt_nil ?_
                      refine tri_ret ?_
                      have e0 := (some1 h); subst e0
                      exact endY [] [] (rvC (resTmp rfl) rvN) trivial trivial rfl rfl rfl rfl (.free rfl)
                    · replace h := cond_f h c47
                      refine tri_skip ?_
                      refine tri_seq ?_
                      refine tri_seq ?_
                      refine tri_region ?_
                      refine s_mv (.inl rfl) (by conv => lhs; whnf) rfl rfl rfl ?_
                      refine s_mv (.inl rfl) (by conv => lhs; whnf) rfl rfl rfl ?_
                      refine s_of (st_neI rfl rfl rfl) rfl rfl rfl rfl ?_
                      refine rt_nil ?_
                      refine tri_cond rfl (fun c48 => ?_) (fun c48 => ?_)
                      · replace h := cond_t h c48
                        refine tri_seq ?_
                        refine tri_region ?_
                        refine s_mv (.inr rfl) (v := .sc (.bool false)) rfl rfl rfl rfl ?_
                        refine rt_nil ?_
                        refine tri_ret ?_
                        have e0 := (some1 h); subst e0
                        exact endY [] [] (rvC (resTmp rfl) rvN) trivial trivial rfl rfl rfl rfl (.free rfl)
                      · replace h := cond_f h c48
                        refine tri_skip ?_
                        refine tri_seq ?_
                        refine tri_region ?_
                        refine s_mv (.inr rfl) (v := .sc (.bool true)) rfl rfl rfl rfl ?_
                        refine rt_nil ?_
                        refine tri_ret ?_
                        have e0 := (some1 h); subst e0
                        exact endY [] [] (rvC (resTmp rfl) rvN) trivial trivial rfl rfl rfl rfl (.free rfl)

end Go.Abs.M
