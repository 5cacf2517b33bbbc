/- Walks of the functions that the law of Look reaches: what each of them computes, where its pure function does not fail. -/
import Derived.Test.YtcdpmfnjajjlkaaWalkLook0
set_option linter.unusedSimpArgs false
set_option linter.unusedVariables false
namespace Go.Abs.M
open Go Go.Abs Go.Proofs
theorem cl11 : callable Try.prog 11 = true := by kernel_rfl
theorem cl13 : callable Try.prog 13 = true := by kernel_rfl
theorem cl14 : callable Try.prog 14 = true := by kernel_rfl
theorem cl16 : callable Try.prog 16 = true := by kernel_rfl
theorem cl18 : callable Try.prog 18 = true := by kernel_rfl
theorem cl19 : callable Try.prog 19 = true := by kernel_rfl
theorem cl8 : callable Try.prog 8 = true := by kernel_rfl
theorem cl9 : callable Try.prog 9 = true := by kernel_rfl
theorem isb4 : isBool Try.prog 4 = true := by kernel_rfl
theorem ty31 : tyK Try.prog 31 = some (true, 2) := by kernel_rfl
/- laws.FnExactLook -/
def inv_w_FnExactLook_2 (x18 : MEntry) (x32 : Int) (x33 : List Rec) (j2_0 : Bool) : St := mkT 119 [(13, .ptr (13, 0) 0 0), (16, .sc (.int .i64 x32)), (110, .sc (.bool j2_0))] [((13, 0), some ⟨39, 6, [[.sc (.string x18.q.name), .sc (.int .i64 x18.q.ty), .sc (.int .i64 x18.kind), .ref (48, 103) 0 x33.length, .sc (.int .i64 x18.rank), .sc (.int .i64 x18.til)]], false, true⟩), ((48, 103), some ⟨70, 6, List.map recV x33, false, true⟩)]
def inv_w_FnExactLook_1 (p0 : MCache) (p1 : Int) (p2 : Quest) (p3 : Int) (x11 : MEntry) (x12 : Bool) (x18 : MEntry) (j1_0 : Bool) : St := mkT 119 [(1, .sc (.int .i64 p1)), (3, .sc (.int .i64 p3)), (4, .ptr (4, 0) 0 0), (6, .ptr (6, 0) 0 0), (10, .ptr (10, 0) 0 0), (11, .sc (.bool x12)), (13, .ptr (13, 0) 0 0), (80, .sc (.bool j1_0))] [((4, 0), some ⟨31, 2, [[.sc (.int .i64 p0.cap), .lst 6 (List.map mEntryV p0.l)]], false, true⟩), ((6, 0), some ⟨33, 2, [[.sc (.string p2.name), .sc (.int .i64 p2.ty)]], false, true⟩), ((10, 0), some ⟨39, 6, [[.sc (.string x11.q.name), .sc (.int .i64 x11.q.ty), .sc (.int .i64 x11.kind), .ref (37, 103) 0 x11.l.length, .sc (.int .i64 x11.rank), .sc (.int .i64 x11.til)]], false, true⟩), ((37, 103), some ⟨70, 6, List.map recV x11.l, false, true⟩), ((13, 0), some ⟨39, 6, [[.sc (.string x18.q.name), .sc (.int .i64 x18.q.ty), .sc (.int .i64 x18.kind), .ref (48, 103) 0 x18.l.length, .sc (.int .i64 x18.rank), .sc (.int .i64 x18.til)]], false, true⟩), ((48, 103), some ⟨70, 6, List.map recV x18.l, false, true⟩)]
def inv_w_FnExactLook_0 (p0 : MCache) (p1 : Int) (p2 : Quest) (p3 : Int) (x11 : MEntry) (x12 : Bool) (x14 : MCache) (x18 : MEntry) (x19 : Bool) (j0_0 : Bool) : St := mkT 119 [(1, .sc (.int .i64 p1)), (3, .sc (.int .i64 p3)), (4, .ptr (4, 0) 0 0), (6, .ptr (6, 0) 0 0), (10, .ptr (10, 0) 0 0), (11, .sc (.bool x12)), (12, .ptr (12, 0) 0 0), (13, .ptr (13, 0) 0 0), (14, .sc (.bool x19)), (59, .sc (.bool j0_0))] ([((4, 0), some ⟨31, 2, [[.sc (.int .i64 p0.cap), .lst 6 (List.map mEntryV p0.l)]], false, true⟩), ((6, 0), some ⟨33, 2, [[.sc (.string p2.name), .sc (.int .i64 p2.ty)]], false, true⟩), ((10, 0), some ⟨39, 6, [[.sc (.string x11.q.name), .sc (.int .i64 x11.q.ty), .sc (.int .i64 x11.kind), .ref (37, 103) 0 x11.l.length, .sc (.int .i64 x11.rank), .sc (.int .i64 x11.til)]], false, true⟩), ((37, 103), some ⟨70, 6, List.map recV x11.l, false, true⟩), ((12, 0), some ⟨24, 2, [[.sc (.int .i64 x14.cap), .ref (41, 1) 0 x14.l.length]], false, true⟩), ((41, 1), some ⟨39, 6, nr 41 mEntryN 10000 x14.l, false, true⟩), ((13, 0), some ⟨39, 6, [[.sc (.string x18.q.name), .sc (.int .i64 x18.q.ty), .sc (.int .i64 x18.kind), .ref (48, 103) 0 x18.l.length, .sc (.int .i64 x18.rank), .sc (.int .i64 x18.til)]], false, true⟩), ((48, 103), some ⟨70, 6, List.map recV x18.l, false, true⟩)] ++ (fam 41 10000 (List.map mEntryG x14.l) ++ []))
set_option maxRecDepth 4000 in
set_option maxHeartbeats 800000 in
theorem ww_FnExactLook (p0 : MCache) (p1 : Int) (p2 : Quest) (p3 : Int) (r0 : Bool) (h : w_FnExactLook p0 p1 p2 p3 = some r0) : Runs Try.prog 4 [.agg (mCacheV p0), .sc (.int .i64 p1), .agg (questV p2), .sc (.int .i64 p3)] [] (.sc (.bool r0)) [] := by
  unfold w_FnExactLook at h
  refine runsR [.tmp 8] Try.func4 rfl rfl rfl rfl ?_
  rw [Try.ntmps4]
  refine tri_seq ?_
  refine tri_region ?_
  refine s_box rfl rfl rfl rfl rfl rfl rfl ?_
  refine s_box rfl rfl rfl rfl rfl rfl rfl ?_
  refine s_mv (.inr rfl) (v := .sc (.bool false)) rfl rfl rfl rfl ?_
  refine rt_nil ?_
  refine tri_seq ?_
  refine tri_region ?_
  refine s_mv (.inr rfl) (v := .sc (.int .i64 1048576)) rfl rfl rfl rfl ?_
  refine rt_nil ?_
  refine tri_seq ?_
  refine tri_region ?_
  refine s_loadR rfl rfl rfl rfl ty31 rfl rfl rfl ?_
  refine s_mv (.inl rfl) (by conv => lhs; whnf) rfl rfl rfl ?_
  refine bnd1_elim h fun x1 q2 h => ?_
  refine s_callN (kb := []) (ns := []) (v := .sc (.int .i64 x1)) rfl rfl cl11 (ww_szCache p0 1048576 x1 q2) rfl (.cons (relAgg rfl) (.cons (.free rfl) .nil)) trivial memNil .nil memNil rfl trivial memNil rfl rfl rfl rfl rfl rfl ?_
  refine s_mv (.inr rfl) (by conv => lhs; whnf) rfl rfl rfl ?_
  refine rt_nil ?_
  refine tri_seq ?_
  refine tri_seq ?_
  refine tri_region ?_
  refine s_mv (.inl rfl) (by conv => lhs; whnf) rfl rfl rfl ?_
  refine s_of (st_lss rfl rfl rfl) rfl rfl rfl rfl ?_
  refine rt_nil ?_
  refine tri_cond rfl (fun c3 => ?_) (fun c3 => ?_)
  · replace h := cond_t h c3
    refine tri_seq ?_
    refine tri_region ?_
    refine s_mv (.inr rfl) (v := .sc (.bool true)) rfl rfl rfl rfl ?_
    refine rt_nil ?_
    refine tri_ret ?_
    have e0 := (some1 h); subst e0
    exact endY [] [] (rvC (resTmp rfl) rvN) trivial trivial rfl rfl rfl rfl (.free rfl)
  · replace h := cond_f h c3
    refine tri_skip ?_
    refine tri_seq ?_
    refine tri_region ?_
    refine s_loadR rfl rfl rfl rfl ty33 rfl rfl rfl ?_
    refine s_mv (.inl rfl) (by conv => lhs; whnf) rfl rfl rfl ?_
    refine bnd1_elim h fun x4 q5 h => ?_
    refine s_callN (kb := []) (ns := []) (v := .sc (.int .i64 x4)) rfl rfl cl12 (ww_szQuest p2 x1 x4 q5) rfl (.cons (relAgg rfl) (.cons (.free rfl) .nil)) trivial memNil .nil memNil rfl trivial memNil rfl rfl rfl rfl rfl rfl ?_
    refine s_mv (.inr rfl) (by conv => lhs; whnf) rfl rfl rfl ?_
    refine rt_nil ?_
    refine tri_seq ?_
    refine tri_seq ?_
    refine tri_region ?_
    refine s_mv (.inl rfl) (by conv => lhs; whnf) rfl rfl rfl ?_
    refine s_of (st_lss rfl rfl rfl) rfl rfl rfl rfl ?_
    refine rt_nil ?_
    refine tri_cond rfl (fun c6 => ?_) (fun c6 => ?_)
    · replace h := cond_t h c6
      refine tri_seq ?_
      refine tri_region ?_
      refine s_mv (.inr rfl) (v := .sc (.bool true)) rfl rfl rfl rfl ?_
      refine rt_nil ?_
      refine tri_ret ?_
      have e0 := (some1 h); subst e0
      exact endY [] [] (rvC (resTmp rfl) rvN) trivial trivial rfl rfl rfl rfl (.free rfl)
    · replace h := cond_f h c6
      refine tri_skip ?_
      refine tri_seq ?_
      refine tri_draw mixed ?_
      refine s_loadR rfl rfl rfl rfl ty31 rfl rfl rfl ?_
      refine bnd1_elim h fun x7 q8 h => ?_
      refine s_callZ (kb := []) (ns := []) (v := .agg [.sc (.int .i64 x7.cap), .ref (32, 1) 0 x7.l.length]) rfl rfl cl14 (ww_toCache p0 x7 q8) rfl (.cons (relAgg rfl) .nil) trivial memNil .nil memNil trivial rfl ⟨(allFree_map mEntryV_free), trivial⟩ memNil rfl (by first | (simp only [V.mat, V.mat1, V.mat0, matL, matT, List.length_map]; done) | (simp only [V.mat, V.mat1, V.mat0, matL, matT, List.length_map]; rfl)) rfl rfl rfl rfl ?_
      refine s_mv (.inl rfl) (by conv => lhs; whnf) rfl rfl rfl ?_
      refine s_loadR rfl rfl rfl rfl ty33 rfl rfl rfl ?_
      refine bnd1_elim h fun x9 q10 h => ?_
      refine s_callN (kb := []) (ns := []) (v := .agg (questV x9)) rfl rfl cl15 (ww_toQuest p2 x9 q10) rfl (.cons (relAgg rfl) .nil) trivial memNil .nil memNil rfl trivial memNil rfl rfl rfl rfl rfl rfl ?_
      refine s_mv (.inl rfl) (by conv => lhs; whnf) rfl rfl rfl ?_
      refine bnd2_elim h fun x11 x12 q13 h => ?_
      refine s_callN (kb := [(32, 1)]) (ns := []) (v := .tup [.agg [.sc (.string x11.q.name), .sc (.int .i64 x11.q.ty), .sc (.int .i64 x11.kind), .ref (37, 103) 0 x11.l.length, .sc (.int .i64 x11.rank), .sc (.int .i64 x11.til)], .sc (.bool x12)]) rfl rfl cl13 (ws_Look x7 p1 x9 p3 x11 x12 q13) rfl (.cons (relAggL (.cons (.free rfl) (.cons (lendL rfl (.head _) rfl mEntryV_free mEntryV_len) .nil))) (.cons (.free rfl) (.cons (relAgg rfl) (.cons (.free rfl) .nil)))) trivial memNil .nil (fun _ _ => List.not_mem_nil) rfl ⟨(allSc_map recV_sc), trivial⟩ memNil rfl (by first | (simp only [V.mat, V.mat1, V.mat0, matL, matT, List.length_map]; done) | (simp only [V.mat, V.mat1, V.mat0, matL, matT, List.length_map]; rfl)) rfl rfl rfl rfl ?_
      refine s_mv (.inl rfl) (by conv => lhs; whnf) rfl rfl rfl ?_
      refine s_extract rfl rfl rfl rfl rfl rfl ?_
      refine s_extract rfl rfl rfl rfl rfl rfl ?_
      refine s_alloc rfl rfl rfl zc39 rfl rfl rfl rfl rfl ?_
      refine s_storeB rfl rfl rfl ty39 rfl rfl rfl rfl rfl ?_
      refine s_mv (.inr rfl) (by conv => lhs; whnf) rfl rfl rfl ?_
      refine rt_nil ⟨by kernel_rfl, ?_⟩
      refine tri_seq ?_
      refine tri_region ?_
      refine s_loadR rfl rfl rfl rfl ty31 rfl rfl rfl ?_
      refine bnd1_elim h fun x14 q15 h => ?_
      refine s_callRt (kb := []) (os' := [(1, ⟨39, 6, nr 41 mEntryN 10000 x14.l, false, true⟩)]) (y := .agg [.sc (.int .i64 x14.cap), .ref (41, 1) 0 x14.l.length]) rfl rfl cl14 (wRw_toCache p0 x14 q15) rfl (.cons (relAgg rfl) .nil) (.cons (outRows mEntryN_z (fun i x hx => (.cons retSc (.cons retSc (.cons retSc (.cons (.own (owns_at (by rw [List.length_map]; exact (List.getElem?_eq_some_iff.1 hx).1))) (.cons retSc (.cons retSc .nil)))))))) id .nil) (fun x => allSc_map recV_sc) mEntryG_z (RetL.agg (.cons retSc (.cons (.own rfl) .nil))) (fun q E h => by simp only [List.mem_cons, List.not_mem_nil, or_false, Prod.mk.injEq] at h; rcases h with ⟨rfl, -⟩ <;> exact rfl) (fun i => rfl) rfl rfl rfl ?_
      refine s_alloc rfl rfl (by repeat (first | exact rfl | exact famNo rfl rfl | refine lkNo rfl ?_)) zc24 rfl rfl rfl rfl rfl ?_
      refine s_storeB rfl rfl rfl ty24 rfl rfl rfl rfl rfl ?_
      refine rt_nil ?_
      refine tri_seq ?_
      refine tri_draw mixed ?_
      refine s_loadR rfl rfl rfl rfl ty24 rfl rfl rfl ?_
      refine s_mv (.inl rfl) (by conv => lhs; whnf) rfl rfl rfl ?_
      refine s_loadR rfl rfl rfl rfl ty33 rfl rfl rfl ?_
      refine bnd1_elim h fun x16 q17 h => ?_
      refine s_callN (kb := []) (ns := []) (v := .agg (questV x16)) rfl rfl cl15 (ww_toQuest p2 x16 q17) rfl (.cons (relAgg rfl) .nil) trivial memNil .nil memNil rfl trivial memNil rfl rfl rfl rfl rfl rfl ?_
      refine s_mv (.inl rfl) (by conv => lhs; whnf) rfl rfl rfl ?_
      refine bnd2_elim h fun x18 x19 q20 h => ?_
      refine s_callN (kb := [(41, 1)] ++ famN 41 10000 x14.l.length) (ns := []) (v := .tup [.agg [.sc (.string x18.q.name), .sc (.int .i64 x18.q.ty), .sc (.int .i64 x18.kind), .ref (48, 103) 0 x18.l.length, .sc (.int .i64 x18.rank), .sc (.int .i64 x18.til)], .sc (.bool x19)]) rfl rfl cl16 (wi_Look x14 p1 x16 p3 x18 x19 q20) rfl (.cons (relAggL (.cons (.free rfl) (.cons (lendN (a := 41) (b := 10000) (f := mEntryN) (g := mEntryG) rfl (List.mem_append_left _ (.head _)) rfl (fun i x hx => ⟨List.mem_append_right _ (famN_iff.2 ⟨i, (List.getElem?_eq_some_iff.1 hx).1, rfl⟩), (by repeat (first | exact fam_lk (by rw [List.getElem?_map, hx]; rfl) | refine lkTo rfl ?_))⟩) (fun m x hm hl => (.cons (.free rfl) (.cons (.free rfl) (.cons (.free rfl) (.cons (lendL hl hm rfl recV_free recV_len) (.cons (.free rfl) (.cons (.free rfl) .nil))))))) mEntryV_free mEntryV_len) .nil))) (.cons (.free rfl) (.cons (relAgg rfl) (.cons (.free rfl) .nil)))) trivial memNil .nil (fun _ _ => List.not_mem_nil) rfl ⟨(allSc_map recV_sc), trivial⟩ memNil (habC (by repeat (first | exact rfl | exact famNo rfl rfl | refine lkNo rfl ?_)) habN) (by first | (simp only [V.mat, V.mat1, V.mat0, matL, matT, List.length_map]; done) | (simp only [V.mat, V.mat1, V.mat0, matL, matT, List.length_map]; rfl)) rfl rfl rfl rfl ?_
      refine s_mv (.inl rfl) (by conv => lhs; whnf) rfl rfl rfl ?_
      refine s_extract rfl rfl rfl rfl rfl rfl ?_
      refine s_extract rfl rfl rfl rfl rfl rfl ?_
      refine s_alloc rfl rfl (by repeat (first | exact rfl | exact famNo rfl rfl | refine lkNo rfl ?_)) zc39 rfl rfl rfl rfl rfl ?_
      refine s_storeB rfl rfl rfl ty39 rfl rfl rfl rfl rfl ?_
      refine s_mv (.inr rfl) (by conv => lhs; whnf) rfl rfl rfl ?_
      refine rt_nil ⟨drawCov (W := [41]) (by kernel_rfl) (covS rfl (covS rfl (covS rfl (covS rfl (covS rfl (covM (rs' := [(41, 1)]) rfl (fun m hm => cov_fam (rs := [(41, 1)]) (a := 41) (b := 10000) (k := x14.l.length) (by decide) (.head _) m hm) (covS rfl (covS rfl (covS rfl (covS rfl (covS rfl (covS rfl .nil)))))))))))), ?_⟩
      refine tri_seq ?_
      refine tri_cutI (ι := { p : Bool // w_FnExactLook_j0 p0 p1 p2 p3 x11 x12 x14 x18 x19 p = some r0 }) (fun p => inv_w_FnExactLook_0 p0 p1 p2 p3 x11 x12 x14 x18 x19 p.1) ?_ ?_
      · skip
        refine tri_region ?_
        refine s_loadR rfl rfl rfl rfl ty39 rfl rfl rfl ?_
        refine s_loadR rfl rfl rfl rfl ty39 rfl rfl rfl ?_
        refine bnd1_elim h fun x21 q22 h => ?_
        refine s_callN (kb := [(48, 103), (37, 103)]) (ns := []) (v := .sc (.bool x21)) rfl rfl cl17 (ww_eqEntry x18 x11 x21 q22) rfl (.cons (relAggL (.cons (.free rfl) (.cons (.free rfl) (.cons (.free rfl) (.cons (lendL rfl (.head _) rfl recV_free recV_len) (.cons (.free rfl) (.cons (.free rfl) .nil))))))) (.cons (relAggL (.cons (.free rfl) (.cons (.free rfl) (.cons (.free rfl) (.cons (lendL rfl (.tail _ (.head _)) rfl recV_free recV_len) (.cons (.free rfl) (.cons (.free rfl) .nil))))))) .nil)) trivial memNil .nil (fun _ _ => List.not_mem_nil) rfl trivial memNil rfl rfl rfl rfl rfl rfl ?_
        refine s_of (st_not rfl rfl) rfl rfl rfl rfl ?_
        refine s_mv (.inl rfl) (by conv => lhs; whnf) rfl rfl rfl ?_
        refine s_split (t := 55) rfl (fun b23 => ?_) (fun b23 => ?_)
        · replace h := cond_t h b23
          refine s_skip rfl rfl rfl ?_
          refine s_skip rfl rfl rfl ?_
          refine s_skip rfl rfl rfl ?_
          refine s_pickT rfl rfl (v := .sc (.bool true)) rfl rfl rfl rfl ?_
          refine rt_nil ?_
          refine Exists.intro ⟨true, h⟩ ?_
          refine entK (items := [((4, 0), ⟨31, 2, [[.sc (.int .i64 p0.cap), .lst 6 (List.map mEntryV p0.l)]], false, true⟩, some (4, 0)), ((6, 0), ⟨33, 2, [[.sc (.string p2.name), .sc (.int .i64 p2.ty)]], false, true⟩, some (6, 0)), ((10, 0), ⟨39, 6, [[.sc (.string x11.q.name), .sc (.int .i64 x11.q.ty), .sc (.int .i64 x11.kind), .ref (37, 103) 0 x11.l.length, .sc (.int .i64 x11.rank), .sc (.int .i64 x11.til)]], false, true⟩, some (10, 0)), ((37, 103), ⟨70, 6, List.map recV x11.l, false, true⟩, some (37, 103)), ((12, 0), ⟨24, 2, [[.sc (.int .i64 x14.cap), .ref (41, 1) 0 x14.l.length]], false, true⟩, some (12, 0)), ((41, 1), ⟨39, 6, nr 41 mEntryN 10000 x14.l, false, true⟩, some (41, 1)), ((13, 0), ⟨39, 6, [[.sc (.string x18.q.name), .sc (.int .i64 x18.q.ty), .sc (.int .i64 x18.kind), .ref (48, 103) 0 x18.l.length, .sc (.int .i64 x18.rank), .sc (.int .i64 x18.til)]], false, true⟩, some (13, 0)), ((48, 103), ⟨70, 6, List.map recV x18.l, false, true⟩, some (48, 103))]) (D := []) (a := 41) (b := 10000) (l := x14.l) (g := mEntryG) ⟨⟨rfl, _, rfl, rfl, rfl, rfl, id, rowsCv_one (.cons (.free rfl) (.cons (.free rfl) .nil)), rowsZ_one rfl⟩, ⟨rfl, _, rfl, rfl, rfl, rfl, id, rowsCv_one (.cons (.free rfl) (.cons (.free rfl) .nil)), rowsZ_one rfl⟩, ⟨rfl, _, rfl, rfl, rfl, rfl, id, rowsCv_one (.cons (.free rfl) (.cons (.free rfl) (.cons (.free rfl) (.cons (.ref rfl) (.cons (.free rfl) (.cons (.free rfl) .nil)))))), rowsZ_one rfl⟩, ⟨rfl, _, rfl, rfl, rfl, rfl, id, rowsCv_eq rfl (allFree_map recV_free), rowsZ_map recV_len⟩, ⟨rfl, _, rfl, rfl, rfl, rfl, id, rowsCv_one (.cons (.free rfl) (.cons (.ref rfl) .nil)), rowsZ_one rfl⟩, ⟨rfl, _, rfl, rfl, rfl, rfl, id, rowsCv_fam (fun x h => mEntryN_cv x h), nr_rowsZ mEntryN_z⟩, ⟨rfl, _, rfl, rfl, rfl, rfl, id, rowsCv_one (.cons (.free rfl) (.cons (.free rfl) (.cons (.free rfl) (.cons (.ref rfl) (.cons (.free rfl) (.cons (.free rfl) .nil)))))), rowsZ_one rfl⟩, ⟨rfl, _, rfl, rfl, rfl, rfl, id, rowsCv_eq rfl (allFree_map recV_free), rowsZ_map recV_len⟩, trivial⟩ trivial rfl rfl rfl rfl (fun j y hy => (by repeat (first | exact fam_lk (by rw [List.getElem?_map, hy]; rfl) | refine lkTo rfl ?_))) mEntryG_f mEntryG_z (fun j => (by repeat (first | exact rfl | exact famNo rfl rfl | refine lkNo rfl ?_))) ?_
          exact ⟨(.free rfl), (.free rfl), (.ptr rfl), (.ptr rfl), (.ptr rfl), (.free rfl), (.ptr rfl), (.ptr rfl), (.free rfl), (.free rfl), trivial⟩
        · replace h := cond_f h b23
          refine s_mv (.inl rfl) (by conv => lhs; whnf) rfl rfl rfl ?_
          refine s_mv (.inl rfl) (by conv => lhs; whnf) rfl rfl rfl ?_
          refine s_of (st_neB isb4 rfl rfl rfl) rfl rfl rfl rfl ?_
          refine s_pickF rfl rfl (by conv => lhs; whnf) rfl rfl rfl ?_
          refine rt_nil ?_
          refine Exists.intro ⟨!(x19 == x12), h⟩ ?_
          refine entK (items := [((4, 0), ⟨31, 2, [[.sc (.int .i64 p0.cap), .lst 6 (List.map mEntryV p0.l)]], false, true⟩, some (4, 0)), ((6, 0), ⟨33, 2, [[.sc (.string p2.name), .sc (.int .i64 p2.ty)]], false, true⟩, some (6, 0)), ((10, 0), ⟨39, 6, [[.sc (.string x11.q.name), .sc (.int .i64 x11.q.ty), .sc (.int .i64 x11.kind), .ref (37, 103) 0 x11.l.length, .sc (.int .i64 x11.rank), .sc (.int .i64 x11.til)]], false, true⟩, some (10, 0)), ((37, 103), ⟨70, 6, List.map recV x11.l, false, true⟩, some (37, 103)), ((12, 0), ⟨24, 2, [[.sc (.int .i64 x14.cap), .ref (41, 1) 0 x14.l.length]], false, true⟩, some (12, 0)), ((41, 1), ⟨39, 6, nr 41 mEntryN 10000 x14.l, false, true⟩, some (41, 1)), ((13, 0), ⟨39, 6, [[.sc (.string x18.q.name), .sc (.int .i64 x18.q.ty), .sc (.int .i64 x18.kind), .ref (48, 103) 0 x18.l.length, .sc (.int .i64 x18.rank), .sc (.int .i64 x18.til)]], false, true⟩, some (13, 0)), ((48, 103), ⟨70, 6, List.map recV x18.l, false, true⟩, some (48, 103))]) (D := []) (a := 41) (b := 10000) (l := x14.l) (g := mEntryG) ⟨⟨rfl, _, rfl, rfl, rfl, rfl, id, rowsCv_one (.cons (.free rfl) (.cons (.free rfl) .nil)), rowsZ_one rfl⟩, ⟨rfl, _, rfl, rfl, rfl, rfl, id, rowsCv_one (.cons (.free rfl) (.cons (.free rfl) .nil)), rowsZ_one rfl⟩, ⟨rfl, _, rfl, rfl, rfl, rfl, id, rowsCv_one (.cons (.free rfl) (.cons (.free rfl) (.cons (.free rfl) (.cons (.ref rfl) (.cons (.free rfl) (.cons (.free rfl) .nil)))))), rowsZ_one rfl⟩, ⟨rfl, _, rfl, rfl, rfl, rfl, id, rowsCv_eq rfl (allFree_map recV_free), rowsZ_map recV_len⟩, ⟨rfl, _, rfl, rfl, rfl, rfl, id, rowsCv_one (.cons (.free rfl) (.cons (.ref rfl) .nil)), rowsZ_one rfl⟩, ⟨rfl, _, rfl, rfl, rfl, rfl, id, rowsCv_fam (fun x h => mEntryN_cv x h), nr_rowsZ mEntryN_z⟩, ⟨rfl, _, rfl, rfl, rfl, rfl, id, rowsCv_one (.cons (.free rfl) (.cons (.free rfl) (.cons (.free rfl) (.cons (.ref rfl) (.cons (.free rfl) (.cons (.free rfl) .nil)))))), rowsZ_one rfl⟩, ⟨rfl, _, rfl, rfl, rfl, rfl, id, rowsCv_eq rfl (allFree_map recV_free), rowsZ_map recV_len⟩, trivial⟩ trivial rfl rfl rfl rfl (fun j y hy => (by repeat (first | exact fam_lk (by rw [List.getElem?_map, hy]; rfl) | refine lkTo rfl ?_))) mEntryG_f mEntryG_z (fun j => (by repeat (first | exact rfl | exact famNo rfl rfl | refine lkNo rfl ?_))) ?_
          exact ⟨(.free rfl), (.free rfl), (.ptr rfl), (.ptr rfl), (.ptr rfl), (.free rfl), (.ptr rfl), (.ptr rfl), (.free rfl), (.free rfl), trivial⟩
      · rintro ⟨j0_0, h⟩
        replace h : w_FnExactLook_j0 p0 p1 p2 p3 x11 x12 x14 x18 x19 j0_0 = some r0 := h
        unfold w_FnExactLook_j0 at h
        show Tri _ _ _ (inv_w_FnExactLook_0 p0 p1 p2 p3 x11 x12 x14 x18 x19 j0_0)
        refine tri_cond rfl (fun c21 => ?_) (fun c21 => ?_)
        · replace h := cond_t h c21
          refine tri_seq ?_
          refine tri_region ?_
          refine s_mv (.inr rfl) (v := .sc (.bool false)) rfl rfl rfl rfl ?_
          refine rt_nil ?_
          refine tri_ret ?_
          have e0 := (some1 h); subst e0
          exact endY [] [] (rvC (resTmp rfl) rvN) trivial trivial rfl (by repeat (first | exact itb_nil | refine itb_cons rfl ?_ | refine itb_fam rfl ?_)) rfl rfl (.free rfl)
        · replace h := cond_f h c21
          refine tri_skip ?_
          refine tri_seq ?_
          refine tri_seq ?_
          refine tri_draw mixed ?_
          refine s_loadR rfl rfl rfl rfl ty24 rfl rfl rfl ?_
          refine s_loadR rfl rfl rfl rfl ty31 rfl rfl rfl ?_
          refine bnd1_elim h fun x22 q23 h => ?_
          refine s_callZ (kb := []) (ns := []) (v := .agg [.sc (.int .i64 x22.cap), .ref (62, 1) 0 x22.l.length]) rfl rfl cl14 (ww_toCache p0 x22 q23) rfl (.cons (relAgg rfl) .nil) trivial memNil .nil memNil trivial rfl ⟨(allFree_map mEntryV_free), trivial⟩ memNil (habC (by repeat (first | exact rfl | exact famNo rfl rfl | refine lkNo rfl ?_)) habN) (by first | (simp only [V.mat, V.mat1, V.mat0, matL, matT, List.length_map]; done) | (simp only [V.mat, V.mat1, V.mat0, matL, matT, List.length_map]; rfl)) rfl rfl rfl rfl ?_
          refine bnd1_elim h fun x24 q25 h => ?_
          refine s_callN (kb := [(41, 1), (62, 1)] ++ famN 41 10000 x14.l.length) (ns := []) (v := .sc (.bool x24)) rfl rfl cl8 (ww_eqCache x14 x22 x24 q25) rfl (.cons (relAggL (.cons (.free rfl) (.cons (lendN (a := 41) (b := 10000) (f := mEntryN) (g := mEntryG) rfl (List.mem_append_left _ (.head _)) rfl (fun i x hx => ⟨List.mem_append_right _ (famN_iff.2 ⟨i, (List.getElem?_eq_some_iff.1 hx).1, rfl⟩), (by repeat (first | exact fam_lk (by rw [List.getElem?_map, hx]; rfl) | refine lkTo rfl ?_))⟩) (fun m x hm hl => (.cons (.free rfl) (.cons (.free rfl) (.cons (.free rfl) (.cons (lendL hl hm rfl recV_free recV_len) (.cons (.free rfl) (.cons (.free rfl) .nil))))))) mEntryV_free mEntryV_len) .nil))) (.cons (relAggL (.cons (.free rfl) (.cons (lendL rfl (List.mem_append_left _ (.tail _ (.head _))) rfl mEntryV_free mEntryV_len) .nil))) .nil)) trivial memNil .nil (fun _ _ => List.not_mem_nil) rfl trivial memNil rfl rfl rfl rfl rfl rfl ?_
          refine s_of (st_not rfl rfl) rfl rfl rfl rfl ?_
          refine rt_nil ⟨drawCov (W := [41]) (by kernel_rfl) (covS rfl (covS rfl (covS rfl (covM (rs' := [(41, 1), (62, 1)]) rfl (fun m hm => cov_fam (rs := [(41, 1), (62, 1)]) (a := 41) (b := 10000) (k := x14.l.length) (by decide) (.head _) m hm) (covS rfl .nil))))), ?_⟩
          refine tri_cond rfl (fun c26 => ?_) (fun c26 => ?_)
          · replace h := cond_t h c26
            refine tri_seq ?_
            refine tri_region ?_
            refine s_mv (.inr rfl) (v := .sc (.bool false)) rfl rfl rfl rfl ?_
            refine rt_nil ?_
            refine tri_ret ?_
            have e0 := (some1 h); subst e0
            exact endY [] [] (rvC (resTmp rfl) rvN) trivial trivial rfl (by repeat (first | exact itb_nil | refine itb_cons rfl ?_ | refine itb_fam rfl ?_)) rfl rfl (.free rfl)
          · replace h := cond_f h c26
            refine tri_skip ?_
            refine tri_seq ?_
            refine tri_region ?_
            refine s_mv (.inr rfl) (v := .sc (.int .i64 1)) rfl rfl rfl rfl ?_
            refine rt_nil ?_
            refine tri_seq ?_
            refine Tri.ent (st' := mkT 119 [(1, .sc (.int .i64 p1)), (3, .sc (.int .i64 p3)), (4, .ptr (4, 0) 0 0), (6, .ptr (6, 0) 0 0), (10, .ptr (10, 0) 0 0), (11, .sc (.bool x12)), (12, .ptr (12, 0) 0 0), (13, .ptr (13, 0) 0 0), (14, .sc (.bool x19)), (15, .sc (.int .i64 1))] ([((4, 0), some ⟨31, 2, [[.sc (.int .i64 p0.cap), .lst 6 (List.map mEntryV p0.l)]], false, true⟩), ((6, 0), some ⟨33, 2, [[.sc (.string p2.name), .sc (.int .i64 p2.ty)]], false, true⟩), ((10, 0), some ⟨39, 6, [[.sc (.string x11.q.name), .sc (.int .i64 x11.q.ty), .sc (.int .i64 x11.kind), .ref (37, 103) 0 x11.l.length, .sc (.int .i64 x11.rank), .sc (.int .i64 x11.til)]], false, true⟩), ((37, 103), some ⟨70, 6, List.map recV x11.l, false, true⟩), ((12, 0), some ⟨24, 2, [[.sc (.int .i64 x14.cap), .ref (41, 1) 0 x14.l.length]], false, true⟩), ((41, 1), some ⟨39, 6, nr 41 mEntryN 10000 x14.l, false, true⟩), ((13, 0), some ⟨39, 6, [[.sc (.string x18.q.name), .sc (.int .i64 x18.q.ty), .sc (.int .i64 x18.kind), .ref (48, 103) 0 x18.l.length, .sc (.int .i64 x18.rank), .sc (.int .i64 x18.til)]], false, true⟩), ((48, 103), some ⟨70, 6, List.map recV x18.l, false, true⟩)] ++ (fam 41 10000 (List.map mEntryG x14.l) ++ []))) ?_ ?_
            · skip
              refine entK (items := [((4, 0), ⟨31, 2, [[.sc (.int .i64 p0.cap), .lst 6 (List.map mEntryV p0.l)]], false, true⟩, some (4, 0)), ((6, 0), ⟨33, 2, [[.sc (.string p2.name), .sc (.int .i64 p2.ty)]], false, true⟩, some (6, 0)), ((10, 0), ⟨39, 6, [[.sc (.string x11.q.name), .sc (.int .i64 x11.q.ty), .sc (.int .i64 x11.kind), .ref (37, 103) 0 x11.l.length, .sc (.int .i64 x11.rank), .sc (.int .i64 x11.til)]], false, true⟩, some (10, 0)), ((37, 103), ⟨70, 6, List.map recV x11.l, false, true⟩, some (37, 103)), ((12, 0), ⟨24, 2, [[.sc (.int .i64 x14.cap), .ref (41, 1) 0 x14.l.length]], false, true⟩, some (12, 0)), ((41, 1), ⟨39, 6, nr 41 mEntryN 10000 x14.l, false, true⟩, some (41, 1)), ((13, 0), ⟨39, 6, [[.sc (.string x18.q.name), .sc (.int .i64 x18.q.ty), .sc (.int .i64 x18.kind), .ref (48, 103) 0 x18.l.length, .sc (.int .i64 x18.rank), .sc (.int .i64 x18.til)]], false, true⟩, some (13, 0)), ((48, 103), ⟨70, 6, List.map recV x18.l, false, true⟩, some (48, 103))]) (D := []) (a := 41) (b := 10000) (l := x14.l) (g := mEntryG) ⟨⟨rfl, _, rfl, rfl, rfl, rfl, id, rowsCv_one (.cons (.free rfl) (.cons (.free rfl) .nil)), rowsZ_one rfl⟩, ⟨rfl, _, rfl, rfl, rfl, rfl, id, rowsCv_one (.cons (.free rfl) (.cons (.free rfl) .nil)), rowsZ_one rfl⟩, ⟨rfl, _, rfl, rfl, rfl, rfl, id, rowsCv_one (.cons (.free rfl) (.cons (.free rfl) (.cons (.free rfl) (.cons (.ref rfl) (.cons (.free rfl) (.cons (.free rfl) .nil)))))), rowsZ_one rfl⟩, ⟨rfl, _, rfl, rfl, rfl, rfl, id, rowsCv_eq rfl (allFree_map recV_free), rowsZ_map recV_len⟩, ⟨rfl, _, rfl, rfl, rfl, rfl, id, rowsCv_one (.cons (.free rfl) (.cons (.ref rfl) .nil)), rowsZ_one rfl⟩, ⟨rfl, _, rfl, rfl, rfl, rfl, id, rowsCv_fam (fun x h => mEntryN_cv x h), nr_rowsZ mEntryN_z⟩, ⟨rfl, _, rfl, rfl, rfl, rfl, id, rowsCv_one (.cons (.free rfl) (.cons (.free rfl) (.cons (.free rfl) (.cons (.ref rfl) (.cons (.free rfl) (.cons (.free rfl) .nil)))))), rowsZ_one rfl⟩, ⟨rfl, _, rfl, rfl, rfl, rfl, id, rowsCv_eq rfl (allFree_map recV_free), rowsZ_map recV_len⟩, trivial⟩ trivial rfl rfl rfl rfl (fun j y hy => (by repeat (first | exact fam_lk (by rw [List.getElem?_map, hy]; rfl) | refine lkTo rfl ?_))) mEntryG_f mEntryG_z (fun j => (by repeat (first | exact rfl | exact famNo rfl rfl | refine lkNo rfl ?_))) ?_
              exact ⟨(.free rfl), (.free rfl), (.ptr rfl), (.ptr rfl), (.ptr rfl), (.free rfl), (.ptr rfl), (.ptr rfl), (.free rfl), (.free rfl), trivial⟩
            refine tri_region ?_
            refine s_loadR rfl rfl rfl rfl ty24 rfl rfl rfl ?_
            refine s_mv (.inl rfl) (by conv => lhs; whnf) rfl rfl rfl ?_
            refine bnd2_elim h fun x27 x28 q29 h => ?_
            refine grd_elim h fun g30 h => ?_
            refine s_callMn (A := [((4, 0), some ⟨31, 2, [[.sc (.int .i64 p0.cap), .lst 6 (List.map mEntryV p0.l)]], false, true⟩), ((6, 0), some ⟨33, 2, [[.sc (.string p2.name), .sc (.int .i64 p2.ty)]], false, true⟩), ((10, 0), some ⟨39, 6, [[.sc (.string x11.q.name), .sc (.int .i64 x11.q.ty), .sc (.int .i64 x11.kind), .ref (37, 103) 0 x11.l.length, .sc (.int .i64 x11.rank), .sc (.int .i64 x11.til)]], false, true⟩), ((37, 103), some ⟨70, 6, List.map recV x11.l, false, true⟩), ((12, 0), some ⟨24, 2, [[.sc (.int .i64 x14.cap), .ref (41, 1) 0 x14.l.length]], false, true⟩), ((41, 1), some ⟨39, 6, nr 41 mEntryN 10000 x14.l, false, true⟩), ((13, 0), some ⟨39, 6, [[.sc (.string x18.q.name), .sc (.int .i64 x18.q.ty), .sc (.int .i64 x18.kind), .ref (48, 103) 0 x18.l.length, .sc (.int .i64 x18.rank), .sc (.int .i64 x18.til)]], false, true⟩), ((48, 103), some ⟨70, 6, List.map recV x18.l, false, true⟩)]) (l := x14.l) (l' := x28) (gm := mEntryG) (fN := mEntryN) (dn := (41, 1)) (a := 41) (b := 10000) (s := false) (mi := true) rfl rfl cl9 (wRw_markCache x14 1 x27 x28 q29) g30 rfl (.cons (relAggL (.cons (.free rfl) (.cons (.refOwn rfl) .nil))) (.cons (.free rfl) .nil)) rfl (fun j => rfl) (fun k => rfl) mEntryN_z (fun x hm => (.cons (.free rfl) (.cons (.free rfl) (.cons (.free rfl) (.cons (.refOwn hm) (.cons (.free rfl) (.cons (.free rfl) .nil))))))) (fun x hm => (.cons retSc (.cons retSc (.cons retSc (.cons (.inn hm) (.cons retSc (.cons retSc .nil))))))) (fun x => allSc_map recV_sc) mEntryG_f mEntryG_z (fun _ _ => rfl) rfl rfl rfl rfl ?_
            refine s_mv (.inr rfl) (by conv => lhs; whnf) rfl rfl rfl ?_
            refine rt_nil ?_
            refine tri_seq ?_
            refine tri_cutI (ι := { p : Bool // w_FnExactLook_j1 p0 p1 p2 p3 x11 x12 x18 p = some r0 }) (fun p => inv_w_FnExactLook_1 p0 p1 p2 p3 x11 x12 x18 p.1) ?_ ?_
            · skip
              refine tri_region ?_
              refine s_mv (.inl rfl) (by conv => lhs; whnf) rfl rfl rfl ?_
              refine s_of (st_lss rfl rfl rfl) rfl rfl rfl rfl ?_
              refine s_mv (.inl rfl) (by conv => lhs; whnf) rfl rfl rfl ?_
              refine s_split (t := 70) rfl (fun b31 => ?_) (fun b31 => ?_)
              · replace h := cond_t h b31
                refine s_skip rfl rfl rfl ?_
                refine s_skip rfl rfl rfl ?_
                refine s_skip rfl rfl rfl ?_
                refine s_skip rfl rfl rfl ?_
                refine s_pickT rfl rfl (v := .sc (.bool true)) rfl rfl rfl rfl ?_
                refine s_mv (.inl rfl) (by conv => lhs; whnf) rfl rfl rfl ?_
                refine s_skip rfl rfl rfl ?_
                refine s_skip rfl rfl rfl ?_
                refine s_skip rfl rfl rfl ?_
                refine s_pickT rfl rfl (v := .sc (.bool true)) rfl rfl rfl rfl ?_
                refine rt_nil ?_
                refine Exists.intro ⟨true, h⟩ ?_
                refine entX [((4, 0), ⟨31, 2, [[.sc (.int .i64 p0.cap), .lst 6 (List.map mEntryV p0.l)]], false, true⟩, some (4, 0)), ((6, 0), ⟨33, 2, [[.sc (.string p2.name), .sc (.int .i64 p2.ty)]], false, true⟩, some (6, 0)), ((10, 0), ⟨39, 6, [[.sc (.string x11.q.name), .sc (.int .i64 x11.q.ty), .sc (.int .i64 x11.kind), .ref (37, 103) 0 x11.l.length, .sc (.int .i64 x11.rank), .sc (.int .i64 x11.til)]], false, true⟩, some (10, 0)), ((37, 103), ⟨70, 6, List.map recV x11.l, false, true⟩, some (37, 103)), ((13, 0), ⟨39, 6, [[.sc (.string x18.q.name), .sc (.int .i64 x18.q.ty), .sc (.int .i64 x18.kind), .ref (48, 103) 0 x18.l.length, .sc (.int .i64 x18.rank), .sc (.int .i64 x18.til)]], false, true⟩, some (13, 0)), ((48, 103), ⟨70, 6, List.map recV x18.l, false, true⟩, some (48, 103))] [] ⟨⟨rfl, _, rfl, rfl, rfl, rfl, id, rowsCv_one (.cons (.free rfl) (.cons (.free rfl) .nil)), rowsZ_one rfl⟩, ⟨rfl, _, rfl, rfl, rfl, rfl, id, rowsCv_one (.cons (.free rfl) (.cons (.free rfl) .nil)), rowsZ_one rfl⟩, ⟨rfl, _, rfl, rfl, rfl, rfl, id, rowsCv_one (.cons (.free rfl) (.cons (.free rfl) (.cons (.free rfl) (.cons (.ref rfl) (.cons (.free rfl) (.cons (.free rfl) .nil)))))), rowsZ_one rfl⟩, ⟨rfl, _, rfl, rfl, rfl, rfl, id, rowsCv_eq rfl (allFree_map recV_free), rowsZ_map recV_len⟩, ⟨rfl, _, rfl, rfl, rfl, rfl, id, rowsCv_one (.cons (.free rfl) (.cons (.free rfl) (.cons (.free rfl) (.cons (.ref rfl) (.cons (.free rfl) (.cons (.free rfl) .nil)))))), rowsZ_one rfl⟩, ⟨rfl, _, rfl, rfl, rfl, rfl, id, rowsCv_eq rfl (allFree_map recV_free), rowsZ_map recV_len⟩, trivial⟩ trivial rfl (by repeat (first | exact itb_nil | refine itb_cons rfl ?_ | refine itb_fam rfl ?_)) ?_
                exact ⟨(.free rfl), (.free rfl), (.ptr rfl), (.ptr rfl), (.ptr rfl), (.free rfl), (.ptr rfl), (.free rfl), trivial⟩
              · replace h := cond_f h b31
                refine s_loadR rfl rfl rfl rfl ty39 rfl rfl rfl ?_
                refine s_loadR rfl rfl rfl rfl ty39 rfl rfl rfl ?_
                refine bnd1_elim h fun x32 q33 h => ?_
                refine s_callN (kb := [(48, 103), (37, 103)]) (ns := []) (v := .sc (.bool x32)) rfl rfl cl17 (ww_eqEntry x18 x11 x32 q33) rfl (.cons (relAggL (.cons (.free rfl) (.cons (.free rfl) (.cons (.free rfl) (.cons (lendL rfl (.head _) rfl recV_free recV_len) (.cons (.free rfl) (.cons (.free rfl) .nil))))))) (.cons (relAggL (.cons (.free rfl) (.cons (.free rfl) (.cons (.free rfl) (.cons (lendL rfl (.tail _ (.head _)) rfl recV_free recV_len) (.cons (.free rfl) (.cons (.free rfl) .nil))))))) .nil)) trivial memNil .nil (fun _ _ => List.not_mem_nil) rfl trivial memNil rfl rfl rfl rfl rfl rfl ?_
                refine s_of (st_not rfl rfl) rfl rfl rfl rfl ?_
                refine s_pickF rfl rfl (by conv => lhs; whnf) rfl rfl rfl ?_
                refine s_mv (.inl rfl) (by conv => lhs; whnf) rfl rfl rfl ?_
                refine s_split (t := 76) rfl (fun b34 => ?_) (fun b34 => ?_)
                · replace h := cond_t h b34
                  refine s_skip rfl rfl rfl ?_
                  refine s_skip rfl rfl rfl ?_
                  refine s_skip rfl rfl rfl ?_
                  refine s_pickT rfl rfl (v := .sc (.bool true)) rfl rfl rfl rfl ?_
                  refine rt_nil ?_
                  refine Exists.intro ⟨true, h⟩ ?_
                  refine entX [((4, 0), ⟨31, 2, [[.sc (.int .i64 p0.cap), .lst 6 (List.map mEntryV p0.l)]], false, true⟩, some (4, 0)), ((6, 0), ⟨33, 2, [[.sc (.string p2.name), .sc (.int .i64 p2.ty)]], false, true⟩, some (6, 0)), ((10, 0), ⟨39, 6, [[.sc (.string x11.q.name), .sc (.int .i64 x11.q.ty), .sc (.int .i64 x11.kind), .ref (37, 103) 0 x11.l.length, .sc (.int .i64 x11.rank), .sc (.int .i64 x11.til)]], false, true⟩, some (10, 0)), ((37, 103), ⟨70, 6, List.map recV x11.l, false, true⟩, some (37, 103)), ((13, 0), ⟨39, 6, [[.sc (.string x18.q.name), .sc (.int .i64 x18.q.ty), .sc (.int .i64 x18.kind), .ref (48, 103) 0 x18.l.length, .sc (.int .i64 x18.rank), .sc (.int .i64 x18.til)]], false, true⟩, some (13, 0)), ((48, 103), ⟨70, 6, List.map recV x18.l, false, true⟩, some (48, 103))] [] ⟨⟨rfl, _, rfl, rfl, rfl, rfl, id, rowsCv_one (.cons (.free rfl) (.cons (.free rfl) .nil)), rowsZ_one rfl⟩, ⟨rfl, _, rfl, rfl, rfl, rfl, id, rowsCv_one (.cons (.free rfl) (.cons (.free rfl) .nil)), rowsZ_one rfl⟩, ⟨rfl, _, rfl, rfl, rfl, rfl, id, rowsCv_one (.cons (.free rfl) (.cons (.free rfl) (.cons (.free rfl) (.cons (.ref rfl) (.cons (.free rfl) (.cons (.free rfl) .nil)))))), rowsZ_one rfl⟩, ⟨rfl, _, rfl, rfl, rfl, rfl, id, rowsCv_eq rfl (allFree_map recV_free), rowsZ_map recV_len⟩, ⟨rfl, _, rfl, rfl, rfl, rfl, id, rowsCv_one (.cons (.free rfl) (.cons (.free rfl) (.cons (.free rfl) (.cons (.ref rfl) (.cons (.free rfl) (.cons (.free rfl) .nil)))))), rowsZ_one rfl⟩, ⟨rfl, _, rfl, rfl, rfl, rfl, id, rowsCv_eq rfl (allFree_map recV_free), rowsZ_map recV_len⟩, trivial⟩ trivial rfl (by repeat (first | exact itb_nil | refine itb_cons rfl ?_ | refine itb_fam rfl ?_)) ?_
                  exact ⟨(.free rfl), (.free rfl), (.ptr rfl), (.ptr rfl), (.ptr rfl), (.free rfl), (.ptr rfl), (.free rfl), trivial⟩
                · replace h := cond_f h b34
                  refine s_mv (.inl rfl) (by conv => lhs; whnf) rfl rfl rfl ?_
                  refine s_mv (.inl rfl) (by conv => lhs; whnf) rfl rfl rfl ?_
                  refine s_of (st_neB isb4 rfl rfl rfl) rfl rfl rfl rfl ?_
                  refine s_pickF rfl rfl (by conv => lhs; whnf) rfl rfl rfl ?_
                  refine rt_nil ?_
                  refine Exists.intro ⟨!(x19 == x12), h⟩ ?_
                  refine entX [((4, 0), ⟨31, 2, [[.sc (.int .i64 p0.cap), .lst 6 (List.map mEntryV p0.l)]], false, true⟩, some (4, 0)), ((6, 0), ⟨33, 2, [[.sc (.string p2.name), .sc (.int .i64 p2.ty)]], false, true⟩, some (6, 0)), ((10, 0), ⟨39, 6, [[.sc (.string x11.q.name), .sc (.int .i64 x11.q.ty), .sc (.int .i64 x11.kind), .ref (37, 103) 0 x11.l.length, .sc (.int .i64 x11.rank), .sc (.int .i64 x11.til)]], false, true⟩, some (10, 0)), ((37, 103), ⟨70, 6, List.map recV x11.l, false, true⟩, some (37, 103)), ((13, 0), ⟨39, 6, [[.sc (.string x18.q.name), .sc (.int .i64 x18.q.ty), .sc (.int .i64 x18.kind), .ref (48, 103) 0 x18.l.length, .sc (.int .i64 x18.rank), .sc (.int .i64 x18.til)]], false, true⟩, some (13, 0)), ((48, 103), ⟨70, 6, List.map recV x18.l, false, true⟩, some (48, 103))] [] ⟨⟨rfl, _, rfl, rfl, rfl, rfl, id, rowsCv_one (.cons (.free rfl) (.cons (.free rfl) .nil)), rowsZ_one rfl⟩, ⟨rfl, _, rfl, rfl, rfl, rfl, id, rowsCv_one (.cons (.free rfl) (.cons (.free rfl) .nil)), rowsZ_one rfl⟩, ⟨rfl, _, rfl, rfl, rfl, rfl, id, rowsCv_one (.cons (.free rfl) (.cons (.free rfl) (.cons (.free rfl) (.cons (.ref rfl) (.cons (.free rfl) (.cons (.free rfl) .nil)))))), rowsZ_one rfl⟩, ⟨rfl, _, rfl, rfl, rfl, rfl, id, rowsCv_eq rfl (allFree_map recV_free), rowsZ_map recV_len⟩, ⟨rfl, _, rfl, rfl, rfl, rfl, id, rowsCv_one (.cons (.free rfl) (.cons (.free rfl) (.cons (.free rfl) (.cons (.ref rfl) (.cons (.free rfl) (.cons (.free rfl) .nil)))))), rowsZ_one rfl⟩, ⟨rfl, _, rfl, rfl, rfl, rfl, id, rowsCv_eq rfl (allFree_map recV_free), rowsZ_map recV_len⟩, trivial⟩ trivial rfl (by repeat (first | exact itb_nil | refine itb_cons rfl ?_ | refine itb_fam rfl ?_)) ?_
                  exact ⟨(.free rfl), (.free rfl), (.ptr rfl), (.ptr rfl), (.ptr rfl), (.free rfl), (.ptr rfl), (.free rfl), trivial⟩
            · rintro ⟨j1_0, h⟩
              replace h : w_FnExactLook_j1 p0 p1 p2 p3 x11 x12 x18 j1_0 = some r0 := h
              unfold w_FnExactLook_j1 at h
              show Tri _ _ _ (inv_w_FnExactLook_1 p0 p1 p2 p3 x11 x12 x18 j1_0)
              refine tri_cond rfl (fun c31 => ?_) (fun c31 => ?_)
              · replace h := cond_t h c31
                refine tri_seq ?_
                refine tri_region ?_
                refine s_mv (.inr rfl) (v := .sc (.bool false)) rfl rfl rfl rfl ?_
                refine rt_nil ?_
                refine tri_ret ?_
                have e0 := (some1 h); subst e0
                exact endY [] [] (rvC (resTmp rfl) rvN) trivial trivial rfl rfl rfl rfl (.free rfl)
              · replace h := cond_f h c31
                refine tri_skip ?_
                refine tri_seq ?_
                refine tri_region ?_
                refine s_mv (.inr rfl) (v := .sc (.int .i64 1)) rfl rfl rfl rfl ?_
                refine rt_nil ?_
                refine tri_seq ?_
                refine tri_region ?_
                refine s_loadR rfl rfl rfl rfl ty39 rfl rfl rfl ?_
                refine s_mv (.inl rfl) (by conv => lhs; whnf) rfl rfl rfl ?_
                refine bnd2_elim h fun x32 x33 q34 h => ?_
                refine grd_elim h fun g35 h => ?_
                refine s_callN (kb := []) (ns := [(48, 103)]) (v := .sc (.int .i64 x32)) rfl rfl cl18 (ww_markEntry x18 1 x32 x33 q34) rfl (.cons (relAggL (.cons (.free rfl) (.cons (.free rfl) (.cons (.free rfl) (.cons (.refOwn rfl) (.cons (.free rfl) (.cons (.free rfl) .nil))))))) (.cons (.free rfl) .nil)) ⟨⟨_, rfl, rfl⟩, trivial⟩ (memCons (allFree_map recV_free) memNil) (List.nodup_cons.2 ⟨List.not_mem_nil, .nil⟩) memNil rfl trivial (memCons (allSc_map recV_sc) memNil) rfl rfl rfl rfl rfl rfl ?_
                refine s_mv (.inr rfl) (by conv => lhs; whnf) rfl rfl rfl ?_
                refine rt_nil ?_
                refine tri_seq ?_
                refine tri_region ?_
                refine s_mv (.inr rfl) (v := .sc (.int .i64 1)) rfl rfl rfl rfl ?_
                refine rt_nil ?_
                refine tri_seq ?_
                refine tri_region ?_
                refine s_loadR rfl rfl rfl rfl ty39 rfl rfl rfl ?_
                refine s_mv (.inl rfl) (by conv => lhs; whnf) rfl rfl rfl ?_
                refine bnd1_elim h fun x36 q37 h => ?_
                refine s_callN (kb := [(48, 103)]) (ns := []) (v := .sc (.int .i64 x36)) rfl rfl cl19 (ww_heldEntry (MEntry.mk x18.q x18.kind x33 x18.rank x18.til) 1 x36 q37) rfl (.cons (relAggL (.cons (.free rfl) (.cons (.free rfl) (.cons (.free rfl) (.cons (lendL rfl (.head _) (by simp only [List.length_set, g35]) recV_free recV_len) (.cons (.free rfl) (.cons (.free rfl) .nil))))))) (.cons (.free rfl) .nil)) trivial memNil .nil (fun _ _ => List.not_mem_nil) rfl trivial memNil rfl rfl rfl rfl rfl rfl ?_
                refine s_mv (.inr rfl) (by conv => lhs; whnf) rfl rfl rfl ?_
                refine rt_nil ?_
                refine tri_seq ?_
                refine tri_seq ?_
                refine tri_region ?_
                refine s_mv (.inl rfl) (by conv => lhs; whnf) rfl rfl rfl ?_
                refine s_of (st_lss rfl rfl rfl) rfl rfl rfl rfl ?_
                refine rt_nil ?_
                refine tri_cond rfl (fun c38 => ?_) (fun c38 => ?_)
                · replace h := cond_t h c38
                  refine tri_seq ?_
                  refine tri_region ?_
                  refine s_mv (.inr rfl) (v := .sc (.bool false)) rfl rfl rfl rfl ?_
                  refine rt_nil ?_
                  refine tri_ret ?_
                  have e0 := (some1 h); subst e0
                  exact endY [] [] (rvC (resTmp rfl) rvN) trivial trivial rfl rfl rfl rfl (.free rfl)
                · replace h := cond_f h c38
                  refine tri_skip ?_
                  refine tri_seq ?_
                  refine tri_seq ?_
                  refine tri_region ?_
                  refine s_mv (.inl rfl) (by conv => lhs; whnf) rfl rfl rfl ?_
                  refine s_mv (.inl rfl) (by conv => lhs; whnf) rfl rfl rfl ?_
                  refine s_of (st_neI rfl rfl rfl) rfl rfl rfl rfl ?_
                  refine rt_nil ?_
                  refine tri_cond rfl (fun c39 => ?_) (fun c39 => ?_)
                  · replace h := cond_t h c39
                    refine tri_seq ?_
                    refine tri_region ?_
                    refine s_mv (.inr rfl) (v := .sc (.bool false)) rfl rfl rfl rfl ?_
                    refine rt_nil ?_
                    refine tri_ret ?_
                    have e0 := (some1 h); subst e0
                    exact endY [] [] (rvC (resTmp rfl) rvN) trivial trivial rfl rfl rfl rfl (.free rfl)
                  · replace h := cond_f h c39
                    refine tri_skip ?_
                    refine tri_seq ?_
                    refine tri_draw mixed ?_
                    refine s_loadR rfl rfl rfl rfl ty31 rfl rfl rfl ?_
                    refine bnd1_elim h fun x40 q41 h => ?_
                    refine s_callZ (kb := []) (ns := []) (v := .agg [.sc (.int .i64 x40.cap), .ref (94, 1) 0 x40.l.length]) rfl rfl cl14 (ww_toCache p0 x40 q41) rfl (.cons (relAgg rfl) .nil) trivial memNil .nil memNil trivial rfl ⟨(allFree_map mEntryV_free), trivial⟩ memNil rfl (by first | (simp only [V.mat, V.mat1, V.mat0, matL, matT, List.length_map]; done) | (simp only [V.mat, V.mat1, V.mat0, matL, matT, List.length_map]; rfl)) rfl rfl rfl rfl ?_
                    refine s_mv (.inl rfl) (by conv => lhs; whnf) rfl rfl rfl ?_
                    refine s_loadR rfl rfl rfl rfl ty33 rfl rfl rfl ?_
                    refine bnd1_elim h fun x42 q43 h => ?_
                    refine s_callN (kb := []) (ns := []) (v := .agg (questV x42)) rfl rfl cl15 (ww_toQuest p2 x42 q43) rfl (.cons (relAgg rfl) .nil) trivial memNil .nil memNil rfl trivial memNil rfl rfl rfl rfl rfl rfl ?_
                    refine s_mv (.inl rfl) (by conv => lhs; whnf) rfl rfl rfl ?_
                    refine bnd2_elim h fun x44 x45 q46 h => ?_
                    refine s_callN (kb := [(94, 1)]) (ns := []) (v := .tup [.agg [.sc (.string x44.q.name), .sc (.int .i64 x44.q.ty), .sc (.int .i64 x44.kind), .ref (99, 103) 0 x44.l.length, .sc (.int .i64 x44.rank), .sc (.int .i64 x44.til)], .sc (.bool x45)]) rfl rfl cl16 (wi_Look x40 p1 x42 p3 x44 x45 q46) rfl (.cons (relAggL (.cons (.free rfl) (.cons (lendL rfl (.head _) rfl mEntryV_free mEntryV_len) .nil))) (.cons (.free rfl) (.cons (relAgg rfl) (.cons (.free rfl) .nil)))) trivial memNil .nil (fun _ _ => List.not_mem_nil) rfl ⟨(allSc_map recV_sc), trivial⟩ memNil rfl (by first | (simp only [V.mat, V.mat1, V.mat0, matL, matT, List.length_map]; done) | (simp only [V.mat, V.mat1, V.mat0, matL, matT, List.length_map]; rfl)) rfl rfl rfl rfl ?_
                    refine s_mv (.inl rfl) (by conv => lhs; whnf) rfl rfl rfl ?_
                    refine s_extract rfl rfl rfl rfl rfl rfl ?_
                    refine s_extract rfl rfl rfl rfl rfl rfl ?_
                    refine s_alloc rfl rfl rfl zc39 rfl rfl rfl rfl rfl ?_
                    refine s_storeB rfl rfl rfl ty39 rfl rfl rfl rfl rfl ?_
                    refine s_mv (.inr rfl) (by conv => lhs; whnf) rfl rfl rfl ?_
                    refine rt_nil ⟨by kernel_rfl, ?_⟩
                    refine tri_seq ?_
                    refine tri_cutI (ι := { p : Bool // w_FnExactLook_j2 x18 x32 x33 p = some r0 }) (fun p => inv_w_FnExactLook_2 x18 x32 x33 p.1) ?_ ?_
                    · skip
                      refine tri_region ?_
                      refine s_loadR rfl rfl rfl rfl ty39 rfl rfl rfl ?_
                      refine s_loadR rfl rfl rfl rfl ty39 rfl rfl rfl ?_
                      refine bnd1_elim h fun x47 q48 h => ?_
                      refine s_callN (kb := [(99, 103), (37, 103)]) (ns := []) (v := .sc (.bool x47)) rfl rfl cl17 (ww_eqEntry x44 x11 x47 q48) rfl (.cons (relAggL (.cons (.free rfl) (.cons (.free rfl) (.cons (.free rfl) (.cons (lendL rfl (.head _) rfl recV_free recV_len) (.cons (.free rfl) (.cons (.free rfl) .nil))))))) (.cons (relAggL (.cons (.free rfl) (.cons (.free rfl) (.cons (.free rfl) (.cons (lendL rfl (.tail _ (.head _)) rfl recV_free recV_len) (.cons (.free rfl) (.cons (.free rfl) .nil))))))) .nil)) trivial memNil .nil (fun _ _ => List.not_mem_nil) rfl trivial memNil rfl rfl rfl rfl rfl rfl ?_
                      refine s_of (st_not rfl rfl) rfl rfl rfl rfl ?_
                      refine s_mv (.inl rfl) (by conv => lhs; whnf) rfl rfl rfl ?_
                      refine s_split (t := 106) rfl (fun b49 => ?_) (fun b49 => ?_)
                      · replace h := cond_t h b49
                        refine s_skip rfl rfl rfl ?_
                        refine s_skip rfl rfl rfl ?_
                        refine s_skip rfl rfl rfl ?_
                        refine s_pickT rfl rfl (v := .sc (.bool true)) rfl rfl rfl rfl ?_
                        refine rt_nil ?_
                        refine Exists.intro ⟨true, h⟩ ?_
                        refine entX [((13, 0), ⟨39, 6, [[.sc (.string x18.q.name), .sc (.int .i64 x18.q.ty), .sc (.int .i64 x18.kind), .ref (48, 103) 0 x33.length, .sc (.int .i64 x18.rank), .sc (.int .i64 x18.til)]], false, true⟩, some (13, 0)), ((48, 103), ⟨70, 6, List.map recV x33, false, true⟩, some (48, 103))] [] ⟨⟨rfl, _, rfl, rfl, rfl, rfl, id, rowsCv_one (.cons (.free rfl) (.cons (.free rfl) (.cons (.free rfl) (.cons (cvRefLen rfl (by simp only [List.length_set, g35])) (.cons (.free rfl) (.cons (.free rfl) .nil)))))), rowsZ_one rfl⟩, ⟨rfl, _, rfl, rfl, rfl, rfl, id, rowsCv_eq rfl (allFree_map recV_free), rowsZ_map recV_len⟩, trivial⟩ trivial rfl rfl ?_
                        exact ⟨(.ptr rfl), (.free rfl), (.free rfl), trivial⟩
                      · replace h := cond_f h b49
                        refine s_mv (.inl rfl) (by conv => lhs; whnf) rfl rfl rfl ?_
                        refine s_mv (.inl rfl) (by conv => lhs; whnf) rfl rfl rfl ?_
                        refine s_of (st_neB isb4 rfl rfl rfl) rfl rfl rfl rfl ?_
                        refine s_pickF rfl rfl (by conv => lhs; whnf) rfl rfl rfl ?_
                        refine rt_nil ?_
                        refine Exists.intro ⟨!(x45 == x12), h⟩ ?_
                        refine entX [((13, 0), ⟨39, 6, [[.sc (.string x18.q.name), .sc (.int .i64 x18.q.ty), .sc (.int .i64 x18.kind), .ref (48, 103) 0 x33.length, .sc (.int .i64 x18.rank), .sc (.int .i64 x18.til)]], false, true⟩, some (13, 0)), ((48, 103), ⟨70, 6, List.map recV x33, false, true⟩, some (48, 103))] [] ⟨⟨rfl, _, rfl, rfl, rfl, rfl, id, rowsCv_one (.cons (.free rfl) (.cons (.free rfl) (.cons (.free rfl) (.cons (cvRefLen rfl (by simp only [List.length_set, g35])) (.cons (.free rfl) (.cons (.free rfl) .nil)))))), rowsZ_one rfl⟩, ⟨rfl, _, rfl, rfl, rfl, rfl, id, rowsCv_eq rfl (allFree_map recV_free), rowsZ_map recV_len⟩, trivial⟩ trivial rfl rfl ?_
                        exact ⟨(.ptr rfl), (.free rfl), (.free rfl), trivial⟩
                    · rintro ⟨j2_0, h⟩
                      replace h : w_FnExactLook_j2 x18 x32 x33 j2_0 = some r0 := h
                      unfold w_FnExactLook_j2 at h
                      show Tri _ _ _ (inv_w_FnExactLook_2 x18 x32 x33 j2_0)
                      refine tri_cond rfl (fun c47 => ?_) (fun c47 => ?_)
                      · replace h := cond_t h c47
                        refine tri_seq ?_
                        refine tri_region ?_
                        refine s_mv (.inr rfl) (v := .sc (.bool false)) rfl rfl rfl rfl ?_
                        refine rt_nil ?_
                        refine tri_ret ?_
                        have e0 := (some1 h); subst e0
                        exact endY [] [] (rvC (resTmp rfl) rvN) trivial trivial rfl rfl rfl rfl (.free rfl)
                      · replace h := cond_f h c47
                        refine tri_skip ?_
                        refine tri_seq ?_
                        refine tri_region ?_
                        refine s_mv (.inr rfl) (v := .sc (.int .i64 1)) rfl rfl rfl rfl ?_
                        refine rt_nil ?_
                        refine tri_seq ?_
                        refine tri_region ?_
                        refine s_loadR rfl rfl rfl rfl ty39 rfl rfl rfl ?_
                        refine s_mv (.inl rfl) (by conv => lhs; whnf) rfl rfl rfl ?_
                        refine bnd1_elim h fun x48 q49 h => ?_
                        refine s_callN (kb := [(48, 103)]) (ns := []) (v := .sc (.int .i64 x48)) rfl rfl cl19 (ww_heldEntry (MEntry.mk x18.q x18.kind x33 x18.rank x18.til) 1 x48 q49) rfl (.cons (relAggL (.cons (.free rfl) (.cons (.free rfl) (.cons (.free rfl) (.cons (lendL rfl (.head _) rfl recV_free recV_len) (.cons (.free rfl) (.cons (.free rfl) .nil))))))) (.cons (.free rfl) .nil)) trivial memNil .nil (fun _ _ => List.not_mem_nil) rfl trivial memNil rfl rfl rfl rfl rfl rfl ?_
                        refine s_mv (.inr rfl) (by conv => lhs; whnf) rfl rfl rfl ?_
                        refine rt_nil ?_
                        refine tri_seq ?_
                        refine tri_seq ?_
                        refine tri_region ?_
                        refine s_mv (.inl rfl) (by conv => lhs; whnf) rfl rfl rfl ?_
                        refine s_of (st_lss rfl rfl rfl) rfl rfl rfl rfl ?_
                        refine rt_nil ?_
                        refine tri_cond rfl (fun c50 => ?_) (fun c50 => ?_)
                        · replace h := cond_t h c50
                          refine tri_seq ?_
                          refine tri_region ?_
                          refine s_mv (.inr rfl) (v := .sc (.bool false)) rfl rfl rfl rfl ?_
                          refine rt_nil ?_
                          refine tri_ret ?_
                          have e0 := (some1 h); subst e0
                          exact endY [] [] (rvC (resTmp rfl) rvN) trivial trivial rfl rfl rfl rfl (.free rfl)
                        · replace h := cond_f h c50
                          refine tri_skip ?_
                          refine tri_seq ?_
                          refine tri_seq ?_
                          refine tri_region ?_
                          refine s_mv (.inl rfl) (by conv => lhs; whnf) rfl rfl rfl ?_
                          refine s_mv (.inl rfl) (by conv => lhs; whnf) rfl rfl rfl ?_
                          refine s_of (st_neI rfl rfl rfl) rfl rfl rfl rfl ?_
                          refine rt_nil ?_
                          refine tri_cond rfl (fun c51 => ?_) (fun c51 => ?_)
                          · replace h := cond_t h c51
                            refine tri_seq ?_
                            refine tri_region ?_
                            refine s_mv (.inr rfl) (v := .sc (.bool false)) rfl rfl rfl rfl ?_
                            refine rt_nil ?_
                            refine tri_ret ?_
                            have e0 := (some1 h); subst e0
                            exact endY [] [] (rvC (resTmp rfl) rvN) trivial trivial rfl rfl rfl rfl (.free rfl)
                          · replace h := cond_f h c51
                            refine tri_skip ?_
                            refine tri_seq ?_
                            refine tri_region ?_
                            refine s_mv (.inr rfl) (v := .sc (.bool true)) rfl rfl rfl rfl ?_
                            refine rt_nil ?_
                            refine tri_ret ?_
                            have e0 := (some1 h); subst e0
                            exact endY [] [] (rvC (resTmp rfl) rvN) trivial trivial rfl rfl rfl rfl (.free rfl)

end Go.Abs.M
