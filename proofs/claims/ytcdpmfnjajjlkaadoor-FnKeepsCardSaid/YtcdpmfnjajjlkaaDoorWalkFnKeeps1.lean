/- Walks of the functions that the law of FnKeeps reaches: what each of them computes, where its pure function does not fail. -/
import Derived.Test.YtcdpmfnjajjlkaaDoorWalkFnKeeps0
namespace Go.Abs.M
open Go Go.Abs Go.Proofs
theorem cl100 : callable Tryd.prog 100 = true := by kernel_rfl
theorem cl105 : callable Tryd.prog 105 = true := by kernel_rfl
theorem cl108 : callable Tryd.prog 108 = true := by kernel_rfl
theorem cl115 : callable Tryd.prog 115 = true := by kernel_rfl
theorem cl116 : callable Tryd.prog 116 = true := by kernel_rfl
theorem cl117 : callable Tryd.prog 117 = true := by kernel_rfl
theorem cl118 : callable Tryd.prog 118 = true := by kernel_rfl
theorem cl119 : callable Tryd.prog 119 = true := by kernel_rfl
theorem cl120 : callable Tryd.prog 120 = true := by kernel_rfl
theorem cl121 : callable Tryd.prog 121 = true := by kernel_rfl
theorem cl124 : callable Tryd.prog 124 = true := by kernel_rfl
theorem cl126 : callable Tryd.prog 126 = true := by kernel_rfl
theorem cl127 : callable Tryd.prog 127 = true := by kernel_rfl
theorem cl131 : callable Tryd.prog 131 = true := by kernel_rfl
theorem cl133 : callable Tryd.prog 133 = true := by kernel_rfl
theorem cl47 : callable Tryd.prog 47 = true := by kernel_rfl
theorem cl48 : callable Tryd.prog 48 = true := by kernel_rfl
theorem cl49 : callable Tryd.prog 49 = true := by kernel_rfl
theorem cl50 : callable Tryd.prog 50 = true := by kernel_rfl
theorem cl59 : callable Tryd.prog 59 = true := by kernel_rfl
theorem cl60 : callable Tryd.prog 60 = true := by kernel_rfl
theorem cl68 : callable Tryd.prog 68 = true := by kernel_rfl
theorem cl73 : callable Tryd.prog 73 = true := by kernel_rfl
theorem cl74 : callable Tryd.prog 74 = true := by kernel_rfl
theorem cl91 : callable Tryd.prog 91 = true := by kernel_rfl
theorem cl92 : callable Tryd.prog 92 = true := by kernel_rfl
theorem cl93 : callable Tryd.prog 93 = true := by kernel_rfl
theorem cl94 : callable Tryd.prog 94 = true := by kernel_rfl
theorem cl95 : callable Tryd.prog 95 = true := by kernel_rfl
theorem cl96 : callable Tryd.prog 96 = true := by kernel_rfl
theorem cl97 : callable Tryd.prog 97 = true := by kernel_rfl
theorem cl98 : callable Tryd.prog 98 = true := by kernel_rfl
/- spec.l15Any -/

set_option maxRecDepth 4000 in
set_option maxHeartbeats 800000 in
theorem ws_l15Any (p0 : Cur) (r0 : MEntry) (r1 : Cur) (h : s_l15Any p0 = some (r0, r1)) : Runs Tryd.prog 73 [.ptr (1000, 0) 0 0] [⟨115, 3, [[.lst 1 (List.map byteV p0.b), .sc (.int .i64 p0.i), .sc (.int .i64 p0.h)]], false, false⟩] (.agg [.sc (.string r0.q.name), .sc (.int .i64 r0.q.ty), .sc (.int .i64 r0.kind), .own 60 6 (List.map recV r0.l), .sc (.int .i64 r0.rank), .sc (.int .i64 r0.til)]) [⟨115, 3, [[.lst 1 (List.map byteV r1.b), .sc (.int .i64 r1.i), .sc (.int .i64 r1.h)]], false, false⟩] := by
  unfold s_l15Any at h
  refine runsR [.cell 2 32] Tryd.func73 rfl rfl rfl rfl ?_
  rw [Tryd.ntmps73]
  refine tri_seq ?_
  refine tri_region ?_
  refine s_alloc rfl rfl rfl zc32 rfl rfl rfl rfl rfl ?_
  refine rt_nil ?_
  refine tri_seq ?_
  refine tri_region ?_
  refine s_mv (.inl rfl) (by conv => lhs; whnf) rfl rfl rfl ?_
  refine bnd2_elim h fun x1 x2 q3 h => ?_
  refine s_callZ (kb := []) (ns := [(1000, 0)]) (v := .agg [.sc (.string x1.q.name), .sc (.int .i64 x1.q.ty), .sc (.int .i64 x1.kind), .ref (5, 3) 0 x1.l.length, .sc (.int .i64 x1.rank), .sc (.int .i64 x1.til)]) rfl rfl cl106 (ws_l15Draw p0 x1 x2 q3) rfl (.cons (.ptrOwn rfl) .nil) ⟨⟨_, rfl, rfl⟩, trivial⟩ (memCons (allFree_one rfl) memNil) (List.nodup_cons.2 ⟨List.not_mem_nil, .nil⟩) memNil trivial rfl ⟨(allFree_map recV_free), trivial⟩ (memCons (allFree_one rfl) memNil) rfl (by first | (simp only [V.mat, V.mat1, V.mat0, matL, matT, List.length_map]; done) | (simp only [V.mat, V.mat1, V.mat0, matL, matT, List.length_map]; rfl)) rfl rfl rfl rfl ?_
  refine s_alloc rfl rfl rfl zc32 rfl rfl rfl rfl rfl ?_
  refine s_storeB rfl rfl rfl ty32 rfl rfl rfl rfl rfl ?_
  refine rt_nil ?_
  refine tri_seq ?_
  refine tri_seq ?_
  refine tri_region ?_
  refine s_mv (.inl rfl) (by conv => lhs; whnf) rfl rfl rfl ?_
  refine bnd2_elim h fun x4 x5 q6 h => ?_
  refine s_callZ (kb := []) (ns := [(1000, 0)]) (v := .sc (.int .i64 x4)) rfl rfl cl61 (ws_l1Below x2 10 x4 x5 q6) rfl (.cons (.ptrOwn rfl) (.cons (.free rfl) .nil)) ⟨⟨_, rfl, rfl⟩, trivial⟩ (memCons (allFree_one rfl) memNil) (List.nodup_cons.2 ⟨List.not_mem_nil, .nil⟩) memNil trivial rfl trivial (memCons (allFree_one rfl) memNil) rfl rfl rfl rfl rfl rfl ?_
  refine rt_nil ?_
  refine tri_block ?_
  refine tri_seq ?_
  refine tri_region ?_
  refine s_of (st_eqI rfl rfl rfl) rfl rfl rfl rfl ?_
  refine s_mv (.inr rfl) (by conv => lhs; whnf) rfl rfl rfl ?_
  refine rt_nil ?_
  refine tri_cond rfl (fun c7 => ?_) (fun c7 => ?_)
  · replace h := cond_t h c7
    refine tri_region ?_
    refine s_mv (.inl rfl) (by conv => lhs; whnf) rfl rfl rfl ?_
    refine bnd2_elim h fun x8 x9 q10 h => ?_
    refine s_callZ (kb := []) (ns := [(1000, 0)]) (v := .sc (.int .i64 x8)) rfl rfl cl61 (ws_l1Below x5 5 x8 x9 q10) rfl (.cons (.ptrOwn rfl) (.cons (.free rfl) .nil)) ⟨⟨_, rfl, rfl⟩, trivial⟩ (memCons (allFree_one rfl) memNil) (List.nodup_cons.2 ⟨List.not_mem_nil, .nil⟩) memNil trivial rfl trivial (memCons (allFree_one rfl) memNil) rfl rfl rfl rfl rfl rfl ?_
    refine grd_elim h fun g11 h => ?_
    refine s_subI rfl rfl rfl rfl g11 rfl rfl rfl ?_
    refine s_fieldAddr rfl rfl fd32_1 rfl rfl rfl rfl ?_
    refine s_store (rows' := [[.sc (.string x1.q.name), .sc (.int .i64 x1.q.ty), .sc (.int .i64 (x8 - 1)), .ref (5, 3) 0 x1.l.length, .sc (.int .i64 x1.rank), .sc (.int .i64 x1.til)]]) rfl rfl rfl rfl ty3 rfl rfl rfl rfl rfl rfl ?_
    refine rt_nil ?_
    refine tri_seq ?_
    refine tri_region ?_
    refine s_loadR rfl rfl rfl rfl ty32 rfl rfl rfl ?_
    refine s_storeB rfl rfl rfl ty32 rfl rfl rfl rfl rfl ?_
    refine rt_nil ?_
    refine tri_ret ?_
    have e0 := (some2 h).1; have e1 := (some2 h).2; subst e0; subst e1
    exact endY (v' := .agg [.sc (.string x1.q.name), .sc (.int .i64 x1.q.ty), .sc (.int .i64 (x8 - 1)), .ref (2000, 3) 0 x1.l.length, .sc (.int .i64 x1.rank), .sc (.int .i64 x1.til)]) [((2000, 3), ⟨60, 6, List.map recV x1.l, false, true⟩, some (5, 3)), ((1000, 0), ⟨115, 3, [[.lst 1 (List.map byteV x9.b), .sc (.int .i64 x9.i), .sc (.int .i64 x9.h)]], false, false⟩, some (1000, 0))] [] (rvC (resCell rfl rfl ty32) rvN) ⟨⟨rfl, _, rfl, rfl, rfl, rfl, id, rowsCv_eq rfl (allFree_map recV_free), rowsZ_map recV_len⟩, ⟨rfl, _, rfl, rfl, rfl, rfl, id, rowsCv_one (.cons (.free rfl) (.cons (.free rfl) (.cons (.free rfl) .nil))), rowsZ_one rfl⟩, trivial⟩ trivial rfl rfl (by kernel_rfl) (by first | (simp only [V.mat, V.mat1, V.mat0, matL, matT, List.length_map]; done) | (simp only [V.mat, V.mat1, V.mat0, matL, matT, List.length_map]; rfl)) (CvL.agg (.cons (.free rfl) (.cons (.free rfl) (.cons (.free rfl) (.cons (.ref rfl) (.cons (.free rfl) (.cons (.free rfl) .nil)))))))
  · replace h := cond_f h c7
    refine tri_seq ?_
    refine tri_region ?_
    refine s_of (st_eqI rfl rfl rfl) rfl rfl rfl rfl ?_
    refine s_mv (.inr rfl) (by conv => lhs; whnf) rfl rfl rfl ?_
    refine rt_nil ?_
    refine tri_cond rfl (fun c12 => ?_) (fun c12 => ?_)
    · replace h := cond_t h c12
      refine tri_region ?_
      refine s_mv (.inl rfl) (by conv => lhs; whnf) rfl rfl rfl ?_
      refine s_buildSlice (rows' := List.map intV [0, 4, 3]) rfl rfl rfl sl96 zc3 rfl rfl rfl rfl rfl rfl rfl rfl rfl ?_
      refine bnd2_elim h fun x13 x14 q15 h => ?_
      refine s_callZ (kb := [(17, 0)]) (ns := [(1000, 0)]) (v := .sc (.int .i64 x13)) rfl rfl cl71 (ws_l1Int x5 [0, 4, 3] x13 x14 q15) rfl (.cons (.ptrOwn rfl) (.cons (lendL rfl (.head _) rfl intV_free intV_len) .nil)) ⟨⟨_, rfl, rfl⟩, trivial⟩ (memCons (allFree_one rfl) memNil) (List.nodup_cons.2 ⟨List.not_mem_nil, .nil⟩) (by decide) ⟨⟨_, rfl, rfl⟩, trivial⟩ rfl trivial (memCons (allFree_one rfl) memNil) rfl rfl rfl rfl rfl rfl ?_
      refine s_fieldAddr rfl rfl fd32_3 rfl rfl rfl rfl ?_
      refine s_store (rows' := [[.sc (.string x1.q.name), .sc (.int .i64 x1.q.ty), .sc (.int .i64 x1.kind), .ref (5, 3) 0 x1.l.length, .sc (.int .i64 x13), .sc (.int .i64 x1.til)]]) rfl rfl rfl rfl ty3 rfl rfl rfl rfl rfl rfl ?_
      refine rt_nil ?_
      refine tri_seq ?_
      refine tri_region ?_
      refine s_loadR rfl rfl rfl rfl ty32 rfl rfl rfl ?_
      refine s_storeB rfl rfl rfl ty32 rfl rfl rfl rfl rfl ?_
      refine rt_nil ?_
      refine tri_ret ?_
      have e0 := (some2 h).1; have e1 := (some2 h).2; subst e0; subst e1
      exact endY (v' := .agg [.sc (.string x1.q.name), .sc (.int .i64 x1.q.ty), .sc (.int .i64 x1.kind), .ref (2000, 3) 0 x1.l.length, .sc (.int .i64 x13), .sc (.int .i64 x1.til)]) [((2000, 3), ⟨60, 6, List.map recV x1.l, false, true⟩, some (5, 3)), ((1000, 0), ⟨115, 3, [[.lst 1 (List.map byteV x14.b), .sc (.int .i64 x14.i), .sc (.int .i64 x14.h)]], false, false⟩, some (1000, 0))] [] (rvC (resCell rfl rfl ty32) rvN) ⟨⟨rfl, _, rfl, rfl, rfl, rfl, id, rowsCv_eq rfl (allFree_map recV_free), rowsZ_map recV_len⟩, ⟨rfl, _, rfl, rfl, rfl, rfl, id, rowsCv_one (.cons (.free rfl) (.cons (.free rfl) (.cons (.free rfl) .nil))), rowsZ_one rfl⟩, trivial⟩ trivial rfl rfl (by kernel_rfl) (by first | (simp only [V.mat, V.mat1, V.mat0, matL, matT, List.length_map]; done) | (simp only [V.mat, V.mat1, V.mat0, matL, matT, List.length_map]; rfl)) (CvL.agg (.cons (.free rfl) (.cons (.free rfl) (.cons (.free rfl) (.cons (.ref rfl) (.cons (.free rfl) (.cons (.free rfl) .nil)))))))
    · replace h := cond_f h c12
      refine tri_seq ?_
      refine tri_region ?_
      refine s_of (st_eqI rfl rfl rfl) rfl rfl rfl rfl ?_
      refine s_mv (.inr rfl) (by conv => lhs; whnf) rfl rfl rfl ?_
      refine rt_nil ?_
      refine tri_cond rfl (fun c16 => ?_) (fun c16 => ?_)
      · replace h := cond_t h c16
        refine tri_region ?_
        refine s_fieldAddr rfl rfl fd32_4 rfl rfl rfl rfl ?_
        refine s_store (rows' := [[.sc (.string x1.q.name), .sc (.int .i64 x1.q.ty), .sc (.int .i64 x1.kind), .ref (5, 3) 0 x1.l.length, .sc (.int .i64 x1.rank), .sc (.int .i64 (-1))]]) rfl rfl rfl rfl ty3 rfl rfl rfl rfl rfl rfl ?_
        refine rt_nil ?_
        refine tri_seq ?_
        refine tri_region ?_
        refine s_loadR rfl rfl rfl rfl ty32 rfl rfl rfl ?_
        refine s_storeB rfl rfl rfl ty32 rfl rfl rfl rfl rfl ?_
        refine rt_nil ?_
        refine tri_ret ?_
        have e0 := (some2 h).1; have e1 := (some2 h).2; subst e0; subst e1
        exact endY (v' := .agg [.sc (.string x1.q.name), .sc (.int .i64 x1.q.ty), .sc (.int .i64 x1.kind), .ref (2000, 3) 0 x1.l.length, .sc (.int .i64 x1.rank), .sc (.int .i64 (-1))]) [((2000, 3), ⟨60, 6, List.map recV x1.l, false, true⟩, some (5, 3)), ((1000, 0), ⟨115, 3, [[.lst 1 (List.map byteV x5.b), .sc (.int .i64 x5.i), .sc (.int .i64 x5.h)]], false, false⟩, some (1000, 0))] [] (rvC (resCell rfl rfl ty32) rvN) ⟨⟨rfl, _, rfl, rfl, rfl, rfl, id, rowsCv_eq rfl (allFree_map recV_free), rowsZ_map recV_len⟩, ⟨rfl, _, rfl, rfl, rfl, rfl, id, rowsCv_one (.cons (.free rfl) (.cons (.free rfl) (.cons (.free rfl) .nil))), rowsZ_one rfl⟩, trivial⟩ trivial rfl rfl (by kernel_rfl) (by first | (simp only [V.mat, V.mat1, V.mat0, matL, matT, List.length_map]; done) | (simp only [V.mat, V.mat1, V.mat0, matL, matT, List.length_map]; rfl)) (CvL.agg (.cons (.free rfl) (.cons (.free rfl) (.cons (.free rfl) (.cons (.ref rfl) (.cons (.free rfl) (.cons (.free rfl) .nil)))))))
      · replace h := cond_f h c16
        refine tri_seq ?_
        refine tri_region ?_
        refine s_of (st_eqI rfl rfl rfl) rfl rfl rfl rfl ?_
        refine s_mv (.inr rfl) (by conv => lhs; whnf) rfl rfl rfl ?_
        refine rt_nil ?_
        refine tri_cond rfl (fun c17 => ?_) (fun c17 => ?_)
        · replace h := cond_t h c17
          refine tri_region ?_
          refine s_mv (.inl rfl) (by conv => lhs; whnf) rfl rfl rfl ?_
          refine s_buildSlice (rows' := List.map intV [0, 1, 3]) rfl rfl rfl sl96 zc3 rfl rfl rfl rfl rfl rfl rfl rfl rfl ?_
          refine bnd2_elim h fun x18 x19 q20 h => ?_
          refine s_callZ (kb := [(26, 0)]) (ns := [(1000, 0)]) (v := .sc (.int .i64 x18)) rfl rfl cl71 (ws_l1Int x5 [0, 1, 3] x18 x19 q20) rfl (.cons (.ptrOwn rfl) (.cons (lendL rfl (.head _) rfl intV_free intV_len) .nil)) ⟨⟨_, rfl, rfl⟩, trivial⟩ (memCons (allFree_one rfl) memNil) (List.nodup_cons.2 ⟨List.not_mem_nil, .nil⟩) (by decide) ⟨⟨_, rfl, rfl⟩, trivial⟩ rfl trivial (memCons (allFree_one rfl) memNil) rfl rfl rfl rfl rfl rfl ?_
          refine s_fieldAddr rfl rfl fd32_0 rfl rfl rfl rfl ?_
          refine s_fieldAddr rfl rfl fd29_1 rfl rfl rfl rfl ?_
          refine s_store (rows' := [[.sc (.string x1.q.name), .sc (.int .i64 x18), .sc (.int .i64 x1.kind), .ref (5, 3) 0 x1.l.length, .sc (.int .i64 x1.rank), .sc (.int .i64 x1.til)]]) rfl rfl rfl rfl ty3 rfl rfl rfl rfl rfl rfl ?_
          refine rt_nil ?_
          refine tri_seq ?_
          refine tri_region ?_
          refine s_loadR rfl rfl rfl rfl ty32 rfl rfl rfl ?_
          refine s_storeB rfl rfl rfl ty32 rfl rfl rfl rfl rfl ?_
          refine rt_nil ?_
          refine tri_ret ?_
          have e0 := (some2 h).1; have e1 := (some2 h).2; subst e0; subst e1
          exact endY (v' := .agg [.sc (.string x1.q.name), .sc (.int .i64 x18), .sc (.int .i64 x1.kind), .ref (2000, 3) 0 x1.l.length, .sc (.int .i64 x1.rank), .sc (.int .i64 x1.til)]) [((2000, 3), ⟨60, 6, List.map recV x1.l, false, true⟩, some (5, 3)), ((1000, 0), ⟨115, 3, [[.lst 1 (List.map byteV x19.b), .sc (.int .i64 x19.i), .sc (.int .i64 x19.h)]], false, false⟩, some (1000, 0))] [] (rvC (resCell rfl rfl ty32) rvN) ⟨⟨rfl, _, rfl, rfl, rfl, rfl, id, rowsCv_eq rfl (allFree_map recV_free), rowsZ_map recV_len⟩, ⟨rfl, _, rfl, rfl, rfl, rfl, id, rowsCv_one (.cons (.free rfl) (.cons (.free rfl) (.cons (.free rfl) .nil))), rowsZ_one rfl⟩, trivial⟩ trivial rfl rfl (by kernel_rfl) (by first | (simp only [V.mat, V.mat1, V.mat0, matL, matT, List.length_map]; done) | (simp only [V.mat, V.mat1, V.mat0, matL, matT, List.length_map]; rfl)) (CvL.agg (.cons (.free rfl) (.cons (.free rfl) (.cons (.free rfl) (.cons (.ref rfl) (.cons (.free rfl) (.cons (.free rfl) .nil)))))))
        · replace h := cond_f h c17
          refine tri_seq ?_
          refine tri_region ?_
          refine s_of (st_eqI rfl rfl rfl) rfl rfl rfl rfl ?_
          refine s_mv (.inr rfl) (by conv => lhs; whnf) rfl rfl rfl ?_
          refine rt_nil ?_
          refine tri_cond rfl (fun c21 => ?_) (fun c21 => ?_)
          · replace h := cond_t h c21
            refine tri_draw mixed ?_
            refine s_fieldAddr rfl rfl fd32_2 rfl rfl rfl rfl ?_
            refine s_load rfl rfl rfl rfl ty30 rfl (.inr rfl) (by conv => lhs; whnf) rfl rfl rfl ?_
            refine s_mv (.inl rfl) (by conv => lhs; whnf) rfl rfl rfl ?_
            refine bnd2_elim h fun x22 x23 q24 h => ?_
            refine s_callZ (kb := []) (ns := [(1000, 0)]) (v := .agg (recV x22)) rfl rfl cl107 (ws_l5Draw x5 x22 x23 q24) rfl (.cons (.ptrOwn rfl) .nil) ⟨⟨_, rfl, rfl⟩, trivial⟩ (memCons (allFree_one rfl) memNil) (List.nodup_cons.2 ⟨List.not_mem_nil, .nil⟩) memNil trivial rfl trivial (memCons (allFree_one rfl) memNil) rfl rfl rfl rfl rfl rfl ?_
            refine s_buildSlice (rows' := List.map recV [x22]) rfl rfl rfl sl30 zc60 rfl rfl rfl rfl rfl rfl rfl rfl rfl ?_
            refine grd_elim h fun g25 h => ?_
            refine s_appL rfl rfl rfl sl30 zc60 rfl rfl rfl rfl rfl rfl (src_refL rfl rfl) g25 rfl rfl ?_
            refine s_fieldAddr rfl rfl fd32_2 rfl rfl rfl rfl ?_
            refine s_store (rows' := [[.sc (.string x1.q.name), .sc (.int .i64 x1.q.ty), .sc (.int .i64 x1.kind), .ref (37, 0) 0 ((x1.l ++ [x22]).length), .sc (.int .i64 x1.rank), .sc (.int .i64 x1.til)]]) rfl rfl rfl rfl ty30 rfl rfl rfl rfl rfl rfl ?_
            refine rt_nil ⟨by kernel_rfl, ?_⟩
            refine tri_seq ?_
            refine tri_region ?_
            refine s_loadR rfl rfl rfl rfl ty32 rfl rfl rfl ?_
            refine s_storeB rfl rfl rfl ty32 rfl rfl rfl rfl rfl ?_
            refine rt_nil ?_
            refine tri_ret ?_
            have e0 := (some2 h).1; have e1 := (some2 h).2; subst e0; subst e1
            exact endY (v' := .agg [.sc (.string x1.q.name), .sc (.int .i64 x1.q.ty), .sc (.int .i64 x1.kind), .ref (2000, 3) 0 ((x1.l ++ [x22]).length), .sc (.int .i64 x1.rank), .sc (.int .i64 x1.til)]) [((2000, 3), ⟨60, 6, List.map recV (x1.l ++ [x22]), false, true⟩, some (37, 0)), ((1000, 0), ⟨115, 3, [[.lst 1 (List.map byteV x23.b), .sc (.int .i64 x23.i), .sc (.int .i64 x23.h)]], false, false⟩, some (1000, 0))] [] (rvC (resCell rfl rfl ty32) rvN) ⟨⟨rfl, _, rfl, rfl, rfl, rfl, id, rowsCv_eq rfl (allFree_map recV_free), rowsZ_map recV_len⟩, ⟨rfl, _, rfl, rfl, rfl, rfl, id, rowsCv_one (.cons (.free rfl) (.cons (.free rfl) (.cons (.free rfl) .nil))), rowsZ_one rfl⟩, trivial⟩ trivial rfl rfl (by kernel_rfl) (by first | (simp only [V.mat, V.mat1, V.mat0, matL, matT, List.length_map]; done) | (simp only [V.mat, V.mat1, V.mat0, matL, matT, List.length_map]; rfl)) (CvL.agg (.cons (.free rfl) (.cons (.free rfl) (.cons (.free rfl) (.cons (.ref rfl) (.cons (.free rfl) (.cons (.free rfl) .nil)))))))
          · replace h := cond_f h c21
            refine tri_skip ?_
            refine tri_seq ?_
            refine tri_region ?_
            refine s_loadR rfl rfl rfl rfl ty32 rfl rfl rfl ?_
            refine s_storeB rfl rfl rfl ty32 rfl rfl rfl rfl rfl ?_
            refine rt_nil ?_
            refine tri_ret ?_
            have e0 := (some2 h).1; have e1 := (some2 h).2; subst e0; subst e1
            exact endY (v' := .agg [.sc (.string x1.q.name), .sc (.int .i64 x1.q.ty), .sc (.int .i64 x1.kind), .ref (2000, 3) 0 x1.l.length, .sc (.int .i64 x1.rank), .sc (.int .i64 x1.til)]) [((2000, 3), ⟨60, 6, List.map recV x1.l, false, true⟩, some (5, 3)), ((1000, 0), ⟨115, 3, [[.lst 1 (List.map byteV x5.b), .sc (.int .i64 x5.i), .sc (.int .i64 x5.h)]], false, false⟩, some (1000, 0))] [] (rvC (resCell rfl rfl ty32) rvN) ⟨⟨rfl, _, rfl, rfl, rfl, rfl, id, rowsCv_eq rfl (allFree_map recV_free), rowsZ_map recV_len⟩, ⟨rfl, _, rfl, rfl, rfl, rfl, id, rowsCv_one (.cons (.free rfl) (.cons (.free rfl) (.cons (.free rfl) .nil))), rowsZ_one rfl⟩, trivial⟩ trivial rfl rfl (by kernel_rfl) (by first | (simp only [V.mat, V.mat1, V.mat0, matL, matT, List.length_map]; done) | (simp only [V.mat, V.mat1, V.mat0, matL, matT, List.length_map]; rfl)) (CvL.agg (.cons (.free rfl) (.cons (.free rfl) (.cons (.free rfl) (.cons (.ref rfl) (.cons (.free rfl) (.cons (.free rfl) .nil)))))))

/- spec.l15Bent -/

set_option maxRecDepth 4000 in
set_option maxHeartbeats 800000 in
theorem ws_l15Bent (p0 : Cur) (r0 : MCache) (r1 : Cur) (h : s_l15Bent p0 = some (r0, r1)) : Runs Tryd.prog 60 [.ptr (1000, 0) 0 0] [⟨115, 3, [[.lst 1 (List.map byteV p0.b), .sc (.int .i64 p0.i), .sc (.int .i64 p0.h)]], false, false⟩] (.agg [.sc (.int .i64 r0.cap), .own 32 6 (List.map mEntryV r0.l)]) [⟨115, 3, [[.lst 1 (List.map byteV r1.b), .sc (.int .i64 r1.i), .sc (.int .i64 r1.h)]], false, false⟩] := by
  unfold s_l15Bent at h
  refine runsR [.cell 2 43] Tryd.func60 rfl rfl rfl rfl ?_
  rw [Tryd.ntmps60]
  refine tri_seq ?_
  refine tri_region ?_
  refine s_alloc rfl rfl rfl zc43 rfl rfl rfl rfl rfl ?_
  refine rt_nil ?_
  refine tri_seq ?_
  refine tri_region ?_
  refine s_mv (.inl rfl) (by conv => lhs; whnf) rfl rfl rfl ?_
  refine bnd2_elim h fun x1 x2 q3 h => ?_
  refine s_callZ (kb := []) (ns := [(1000, 0)]) (v := .agg [.sc (.int .i64 x1.cap), .ref (5, 1) 0 x1.l.length]) rfl rfl cl100 (ws_l15Cache p0 x1 x2 q3) rfl (.cons (.ptrOwn rfl) .nil) ⟨⟨_, rfl, rfl⟩, trivial⟩ (memCons (allFree_one rfl) memNil) (List.nodup_cons.2 ⟨List.not_mem_nil, .nil⟩) memNil trivial rfl ⟨(allFree_map mEntryV_free), trivial⟩ (memCons (allFree_one rfl) memNil) rfl (by first | (simp only [V.mat, V.mat1, V.mat0, matL, matT, List.length_map]; done) | (simp only [V.mat, V.mat1, V.mat0, matL, matT, List.length_map]; rfl)) rfl rfl rfl rfl ?_
  refine s_alloc rfl rfl rfl zc43 rfl rfl rfl rfl rfl ?_
  refine s_storeB rfl rfl rfl ty43 rfl rfl rfl rfl rfl ?_
  refine rt_nil ?_
  refine tri_seq ?_
  refine tri_seq ?_
  refine tri_region ?_
  refine s_mv (.inl rfl) (by conv => lhs; whnf) rfl rfl rfl ?_
  refine bnd2_elim h fun x4 x5 q6 h => ?_
  refine s_callZ (kb := []) (ns := [(1000, 0)]) (v := .sc (.int .i64 x4)) rfl rfl cl61 (ws_l1Below x2 8 x4 x5 q6) rfl (.cons (.ptrOwn rfl) (.cons (.free rfl) .nil)) ⟨⟨_, rfl, rfl⟩, trivial⟩ (memCons (allFree_one rfl) memNil) (List.nodup_cons.2 ⟨List.not_mem_nil, .nil⟩) memNil trivial rfl trivial (memCons (allFree_one rfl) memNil) rfl rfl rfl rfl rfl rfl ?_
  refine rt_nil ?_
  refine tri_block ?_
  refine tri_seq ?_
  refine tri_region ?_
  refine s_of (st_eqI rfl rfl rfl) rfl rfl rfl rfl ?_
  refine s_mv (.inr rfl) (by conv => lhs; whnf) rfl rfl rfl ?_
  refine rt_nil ?_
  refine tri_cond rfl (fun c7 => ?_) (fun c7 => ?_)
  · replace h := cond_t h c7
    refine tri_region ?_
    refine s_mv (.inl rfl) (by conv => lhs; whnf) rfl rfl rfl ?_
    refine s_buildSlice (rows' := List.map intV [0, 1, 60, 61, (-1)]) rfl rfl rfl sl96 zc3 rfl rfl rfl rfl rfl rfl rfl rfl rfl ?_
    refine bnd2_elim h fun x8 x9 q10 h => ?_
    refine s_callZ (kb := [(11, 0)]) (ns := [(1000, 0)]) (v := .sc (.int .i64 x8)) rfl rfl cl71 (ws_l1Int x5 [0, 1, 60, 61, (-1)] x8 x9 q10) rfl (.cons (.ptrOwn rfl) (.cons (lendL rfl (.head _) rfl intV_free intV_len) .nil)) ⟨⟨_, rfl, rfl⟩, trivial⟩ (memCons (allFree_one rfl) memNil) (List.nodup_cons.2 ⟨List.not_mem_nil, .nil⟩) (by decide) ⟨⟨_, rfl, rfl⟩, trivial⟩ rfl trivial (memCons (allFree_one rfl) memNil) rfl rfl rfl rfl rfl rfl ?_
    refine s_fieldAddr rfl rfl fd43_0 rfl rfl rfl rfl ?_
    refine s_store (rows' := [[.sc (.int .i64 x8), .ref (5, 1) 0 x1.l.length]]) rfl rfl rfl rfl ty3 rfl rfl rfl rfl rfl rfl ?_
    refine rt_nil ?_
    refine tri_seq ?_
    refine tri_region ?_
    refine s_loadR rfl rfl rfl rfl ty43 rfl rfl rfl ?_
    refine s_storeB rfl rfl rfl ty43 rfl rfl rfl rfl rfl ?_
    refine rt_nil ?_
    refine tri_ret ?_
    have e0 := (some2 h).1; have e1 := (some2 h).2; subst e0; subst e1
    exact endY (v' := .agg [.sc (.int .i64 x8), .ref (2000, 1) 0 x1.l.length]) [((2000, 1), ⟨32, 6, List.map mEntryV x1.l, false, true⟩, some (5, 1)), ((1000, 0), ⟨115, 3, [[.lst 1 (List.map byteV x9.b), .sc (.int .i64 x9.i), .sc (.int .i64 x9.h)]], false, false⟩, some (1000, 0))] [] (rvC (resCell rfl rfl ty43) rvN) ⟨⟨rfl, _, rfl, rfl, rfl, rfl, id, rowsCv_eq rfl (allFree_map mEntryV_free), rowsZ_map mEntryV_len⟩, ⟨rfl, _, rfl, rfl, rfl, rfl, id, rowsCv_one (.cons (.free rfl) (.cons (.free rfl) (.cons (.free rfl) .nil))), rowsZ_one rfl⟩, trivial⟩ trivial rfl rfl (by kernel_rfl) (by first | (simp only [V.mat, V.mat1, V.mat0, matL, matT, List.length_map]; done) | (simp only [V.mat, V.mat1, V.mat0, matL, matT, List.length_map]; rfl)) (CvL.agg (.cons (.free rfl) (.cons (.ref rfl) .nil)))
  · replace h := cond_f h c7
    refine tri_seq ?_
    refine tri_region ?_
    refine s_of (st_eqI rfl rfl rfl) rfl rfl rfl rfl ?_
    refine s_mv (.inr rfl) (by conv => lhs; whnf) rfl rfl rfl ?_
    refine rt_nil ?_
    refine tri_cond rfl (fun c11 => ?_) (fun c11 => ?_)
    · replace h := cond_t h c11
      refine tri_draw mixed ?_
      refine s_fieldAddr rfl rfl fd43_1 rfl rfl rfl rfl ?_
      refine s_load rfl rfl rfl rfl ty41 rfl (.inr rfl) (by conv => lhs; whnf) rfl rfl rfl ?_
      refine s_mv (.inl rfl) (by conv => lhs; whnf) rfl rfl rfl ?_
      refine bnd2_elim h fun x12 x13 q14 h => ?_
      refine s_callZF (kb := []) (ns := [(1000, 0)]) (v := .agg [.sc (.string x12.q.name), .sc (.int .i64 x12.q.ty), .sc (.int .i64 x12.kind), .ref (19, 3) 0 x12.l.length, .sc (.int .i64 x12.rank), .sc (.int .i64 x12.til)]) (D := [(19, 3)]) rfl rfl cl73 (ws_l15Any x5 x12 x13 q14) rfl (.cons (.ptrOwn rfl) .nil) ⟨⟨_, rfl, rfl⟩, trivial⟩ (memCons (allFree_one rfl) memNil) (List.nodup_cons.2 ⟨List.not_mem_nil, .nil⟩) memNil trivial rfl ⟨(allFree_map recV_free), trivial⟩ (memCons (allFree_one rfl) memNil) rfl (by first | (simp only [V.mat, V.mat1, V.mat0, matL, matT, List.length_map]; done) | (simp only [V.mat, V.mat1, V.mat0, matL, matT, List.length_map]; rfl)) rfl ⟨⟨rfl, rfl, _, rfl, rfl⟩, trivial⟩ (relAggL (.cons (.free rfl) (.cons (.free rfl) (.cons (.free rfl) (.cons (lendL rfl (.head _) rfl recV_free recV_len) (.cons (.free rfl) (.cons (.free rfl) .nil))))))) rfl rfl rfl ?_
      refine s_buildSlice (rows' := List.map mEntryV [x12]) rfl rfl rfl sl41 zc32 rfl rfl rfl rfl rfl rfl rfl rfl rfl ?_
      refine grd_elim h fun g15 h => ?_
      refine s_appL rfl rfl rfl sl41 zc32 rfl rfl rfl rfl rfl rfl (src_refL rfl rfl) g15 rfl rfl ?_
      refine s_fieldAddr rfl rfl fd43_1 rfl rfl rfl rfl ?_
      refine s_store (rows' := [[.sc (.int .i64 x1.cap), .ref (21, 0) 0 ((x1.l ++ [x12]).length)]]) rfl rfl rfl rfl ty41 rfl rfl rfl rfl rfl rfl ?_
      refine rt_nil ⟨by kernel_rfl, ?_⟩
      refine tri_seq ?_
      refine tri_region ?_
      refine s_loadR rfl rfl rfl rfl ty43 rfl rfl rfl ?_
      refine s_storeB rfl rfl rfl ty43 rfl rfl rfl rfl rfl ?_
      refine rt_nil ?_
      refine tri_ret ?_
      have e0 := (some2 h).1; have e1 := (some2 h).2; subst e0; subst e1
      exact endY (v' := .agg [.sc (.int .i64 x1.cap), .ref (2000, 1) 0 ((x1.l ++ [x12]).length)]) [((2000, 1), ⟨32, 6, List.map mEntryV (x1.l ++ [x12]), false, true⟩, some (21, 0)), ((1000, 0), ⟨115, 3, [[.lst 1 (List.map byteV x13.b), .sc (.int .i64 x13.i), .sc (.int .i64 x13.h)]], false, false⟩, some (1000, 0))] [] (rvC (resCell rfl rfl ty43) rvN) ⟨⟨rfl, _, rfl, rfl, rfl, rfl, id, rowsCv_eq rfl (allFree_map mEntryV_free), rowsZ_map mEntryV_len⟩, ⟨rfl, _, rfl, rfl, rfl, rfl, id, rowsCv_one (.cons (.free rfl) (.cons (.free rfl) (.cons (.free rfl) .nil))), rowsZ_one rfl⟩, trivial⟩ trivial rfl rfl (by kernel_rfl) (by first | (simp only [V.mat, V.mat1, V.mat0, matL, matT, List.length_map]; done) | (simp only [V.mat, V.mat1, V.mat0, matL, matT, List.length_map]; rfl)) (CvL.agg (.cons (.free rfl) (.cons (.ref rfl) .nil)))
    · replace h := cond_f h c11
      refine tri_seq ?_
      refine tri_region ?_
      refine s_of (st_eqI rfl rfl rfl) rfl rfl rfl rfl ?_
      refine s_mv (.inr rfl) (by conv => lhs; whnf) rfl rfl rfl ?_
      refine rt_nil ?_
      refine tri_cond rfl (fun c16 => ?_) (fun c16 => ?_)
      · replace h := cond_t h c16
        refine tri_region ?_
        refine s_fieldAddr rfl rfl fd43_1 rfl rfl rfl rfl ?_
        refine s_load rfl rfl rfl rfl ty41 rfl (.inr rfl) (by conv => lhs; whnf) rfl rfl rfl ?_
        refine s_fieldAddr rfl rfl fd43_1 rfl rfl rfl rfl ?_
        refine s_load rfl rfl rfl rfl ty41 rfl (.inr rfl) (by conv => lhs; whnf) rfl rfl rfl ?_
        refine grd_elim h fun g17 h => ?_
        refine s_appL rfl rfl rfl sl41 zc32 rfl rfl rfl rfl rfl rfl (src_refL rfl rfl) g17 rfl rfl ?_
        refine s_fieldAddr rfl rfl fd43_1 rfl rfl rfl rfl ?_
        refine s_store (rows' := [[.sc (.int .i64 x1.cap), .ref (29, 0) 0 ((x1.l ++ x1.l).length)]]) rfl rfl rfl rfl ty41 rfl rfl rfl rfl rfl rfl ?_
        refine rt_nil ?_
        refine tri_seq ?_
        refine tri_region ?_
        refine s_loadR rfl rfl rfl rfl ty43 rfl rfl rfl ?_
        refine s_storeB rfl rfl rfl ty43 rfl rfl rfl rfl rfl ?_
        refine rt_nil ?_
        refine tri_ret ?_
        have e0 := (some2 h).1; have e1 := (some2 h).2; subst e0; subst e1
        exact endY (v' := .agg [.sc (.int .i64 x1.cap), .ref (2000, 1) 0 ((x1.l ++ x1.l).length)]) [((2000, 1), ⟨32, 6, List.map mEntryV (x1.l ++ x1.l), false, true⟩, some (29, 0)), ((1000, 0), ⟨115, 3, [[.lst 1 (List.map byteV x5.b), .sc (.int .i64 x5.i), .sc (.int .i64 x5.h)]], false, false⟩, some (1000, 0))] [] (rvC (resCell rfl rfl ty43) rvN) ⟨⟨rfl, _, rfl, rfl, rfl, rfl, id, rowsCv_eq rfl (allFree_map mEntryV_free), rowsZ_map mEntryV_len⟩, ⟨rfl, _, rfl, rfl, rfl, rfl, id, rowsCv_one (.cons (.free rfl) (.cons (.free rfl) (.cons (.free rfl) .nil))), rowsZ_one rfl⟩, trivial⟩ trivial rfl rfl (by kernel_rfl) (by first | (simp only [V.mat, V.mat1, V.mat0, matL, matT, List.length_map]; done) | (simp only [V.mat, V.mat1, V.mat0, matL, matT, List.length_map]; rfl)) (CvL.agg (.cons (.free rfl) (.cons (.ref rfl) .nil)))
      · replace h := cond_f h c16
        refine tri_skip ?_
        refine tri_seq ?_
        refine tri_region ?_
        refine s_loadR rfl rfl rfl rfl ty43 rfl rfl rfl ?_
        refine s_storeB rfl rfl rfl ty43 rfl rfl rfl rfl rfl ?_
        refine rt_nil ?_
        refine tri_ret ?_
        have e0 := (some2 h).1; have e1 := (some2 h).2; subst e0; subst e1
        exact endY (v' := .agg [.sc (.int .i64 x1.cap), .ref (2000, 1) 0 x1.l.length]) [((2000, 1), ⟨32, 6, List.map mEntryV x1.l, false, true⟩, some (5, 1)), ((1000, 0), ⟨115, 3, [[.lst 1 (List.map byteV x5.b), .sc (.int .i64 x5.i), .sc (.int .i64 x5.h)]], false, false⟩, some (1000, 0))] [] (rvC (resCell rfl rfl ty43) rvN) ⟨⟨rfl, _, rfl, rfl, rfl, rfl, id, rowsCv_eq rfl (allFree_map mEntryV_free), rowsZ_map mEntryV_len⟩, ⟨rfl, _, rfl, rfl, rfl, rfl, id, rowsCv_one (.cons (.free rfl) (.cons (.free rfl) (.cons (.free rfl) .nil))), rowsZ_one rfl⟩, trivial⟩ trivial rfl rfl (by kernel_rfl) (by first | (simp only [V.mat, V.mat1, V.mat0, matL, matT, List.length_map]; done) | (simp only [V.mat, V.mat1, V.mat0, matL, matT, List.length_map]; rfl)) (CvL.agg (.cons (.free rfl) (.cons (.ref rfl) .nil)))

/- spec.l1Once -/

set_option maxRecDepth 4000 in
set_option maxHeartbeats 800000 in
theorem ws_l1Once (p0 : Cur) (p1 : Int) (r0 : Bool) (r1 : Cur) (h : s_l1Once p0 p1 = some (r0, r1)) : Runs Tryd.prog 68 [.ptr (1000, 0) 0 0, .sc (.int .i64 p1)] [⟨115, 3, [[.lst 1 (List.map byteV p0.b), .sc (.int .i64 p0.i), .sc (.int .i64 p0.h)]], false, false⟩] (.sc (.bool r0)) [⟨115, 3, [[.lst 1 (List.map byteV r1.b), .sc (.int .i64 r1.i), .sc (.int .i64 r1.h)]], false, false⟩] := by
  unfold s_l1Once at h
  refine runsR [.tmp 4] Tryd.func68 rfl rfl rfl rfl ?_
  rw [Tryd.ntmps68]
  refine tri_seq ?_
  refine tri_region ?_
  refine s_mv (.inr rfl) (v := .sc (.bool false)) rfl rfl rfl rfl ?_
  refine rt_nil ?_
  refine tri_seq ?_
  refine tri_region ?_
  refine s_mv (.inl rfl) (by conv => lhs; whnf) rfl rfl rfl ?_
  refine s_mv (.inl rfl) (by conv => lhs; whnf) rfl rfl rfl ?_
  refine bnd2_elim h fun x1 x2 q3 h => ?_
  refine s_callZ (kb := []) (ns := [(1000, 0)]) (v := .sc (.int .i64 x1)) rfl rfl cl61 (ws_l1Below p0 p1 x1 x2 q3) rfl (.cons (.ptrOwn rfl) (.cons (.free rfl) .nil)) ⟨⟨_, rfl, rfl⟩, trivial⟩ (memCons (allFree_one rfl) memNil) (List.nodup_cons.2 ⟨List.not_mem_nil, .nil⟩) memNil trivial rfl trivial (memCons (allFree_one rfl) memNil) rfl rfl rfl rfl rfl rfl ?_
  refine s_of (st_eqI rfl rfl rfl) rfl rfl rfl rfl ?_
  refine s_mv (.inr rfl) (by conv => lhs; whnf) rfl rfl rfl ?_
  refine rt_nil ?_
  refine tri_ret ?_
  have e0 := (some2 h).1; have e1 := (some2 h).2; subst e0; subst e1
  exact endY [((1000, 0), ⟨115, 3, [[.lst 1 (List.map byteV x2.b), .sc (.int .i64 x2.i), .sc (.int .i64 x2.h)]], false, false⟩, some (1000, 0))] [] (rvC (resTmp rfl) rvN) ⟨⟨rfl, _, rfl, rfl, rfl, rfl, id, rowsCv_one (.cons (.free rfl) (.cons (.free rfl) (.cons (.free rfl) .nil))), rowsZ_one rfl⟩, trivial⟩ trivial rfl rfl (by kernel_rfl) rfl (.free rfl)

/- spec.DrawKeep -/
def inv_s_DrawKeep_1 (x3 : MCache) (x6 : MEntry) (j1_0 : List Int) (j1_1 : Int) (j1_2 : Int) (j1_3 : Bool) : St := mkT 40 [(2, .ptr (2, 0) 0 0), (4, .ptr (4, 0) 0 0), (5, .ptr (9, 0) 0 0), (6, .ptr (6, 0) 0 0), (7, .ptr (7, 0) 0 0), (21, .sc (.bool j1_3))] [((2, 0), some ⟨43, 2, [[.sc (.int .i64 0), .nils]], false, true⟩), ((4, 0), some ⟨32, 6, [[.sc (.string (⟨#[]⟩ : ByteArray)), .sc (.int .i64 0), .sc (.int .i64 0), .nils, .sc (.int .i64 0), .sc (.int .i64 0)]], false, true⟩), ((9, 0), some ⟨115, 3, [[.lst 1 (List.map byteV j1_0), .sc (.int .i64 j1_1), .sc (.int .i64 j1_2)]], false, true⟩), ((6, 0), some ⟨43, 2, [[.sc (.int .i64 x3.cap), .ref (11, 1) 0 x3.l.length]], false, true⟩), ((11, 1), some ⟨32, 6, List.map mEntryV x3.l, false, true⟩), ((7, 0), some ⟨32, 6, [[.sc (.string x6.q.name), .sc (.int .i64 x6.q.ty), .sc (.int .i64 x6.kind), .ref (13, 3) 0 x6.l.length, .sc (.int .i64 x6.rank), .sc (.int .i64 x6.til)]], false, true⟩), ((13, 3), some ⟨60, 6, List.map recV x6.l, false, true⟩)]
def inv_s_DrawKeep_0 (x3 : MCache) (x6 : MEntry) (j0_0 : List Int) (j0_1 : Int) (j0_2 : Int) (j0_3 : ByteArray) (j0_4 : Int) (j0_5 : Int) (j0_6 : List Rec) : St := mkT 40 [(2, .ptr (2, 0) 0 0), (4, .ptr (4, 0) 0 0), (5, .ptr (9, 0) 0 0), (6, .ptr (6, 0) 0 0), (7, .ptr (7, 0) 0 0)] [((2, 0), some ⟨43, 2, [[.sc (.int .i64 0), .nils]], false, true⟩), ((4, 0), some ⟨32, 6, [[.sc (.string (⟨#[]⟩ : ByteArray)), .sc (.int .i64 0), .sc (.int .i64 0), .nils, .sc (.int .i64 0), .sc (.int .i64 0)]], false, true⟩), ((9, 0), some ⟨115, 3, [[.lst 1 (List.map byteV j0_0), .sc (.int .i64 j0_1), .sc (.int .i64 j0_2)]], false, true⟩), ((6, 0), some ⟨43, 2, [[.sc (.int .i64 x3.cap), .ref (11, 1) 0 x3.l.length]], false, true⟩), ((11, 1), some ⟨32, 6, List.map mEntryV x3.l, false, true⟩), ((7, 0), some ⟨32, 6, [[.sc (.string j0_3), .sc (.int .i64 j0_4), .sc (.int .i64 j0_5), .ref (2007, 4) 0 j0_6.length, .sc (.int .i64 x6.rank), .sc (.int .i64 x6.til)]], false, true⟩), ((2007, 4), some ⟨60, 6, List.map recV j0_6, false, true⟩)]
set_option maxRecDepth 4000 in
set_option maxHeartbeats 800000 in
theorem ws_DrawKeep (p0 : List Int) (r0 : MCache) (r1 : Int) (r2 : MEntry) (h : s_DrawKeep p0 = some (r0, r1, r2)) : Runs Tryd.prog 32 [.lst 1 (List.map byteV p0)] [] (.tup [.agg [.sc (.int .i64 r0.cap), .own 32 6 (List.map mEntryV r0.l)], .sc (.int .i64 r1), .agg [.sc (.string r2.q.name), .sc (.int .i64 r2.q.ty), .sc (.int .i64 r2.kind), .own 60 6 (List.map recV r2.l), .sc (.int .i64 r2.rank), .sc (.int .i64 r2.til)]]) [] := by
  unfold s_DrawKeep at h
  refine runsR [.cell 2 43, .tmp 3, .cell 4 32] Tryd.func32 rfl rfl rfl rfl ?_
  rw [Tryd.ntmps32]
  refine tri_seq ?_
  refine tri_region ?_
  refine s_alloc rfl rfl rfl zc43 rfl rfl rfl rfl rfl ?_
  refine s_mv (.inr rfl) (v := .sc (.int .i64 0)) rfl rfl rfl rfl ?_
  refine s_alloc rfl rfl rfl zc32 rfl rfl rfl rfl rfl ?_
  refine rt_nil ?_
  refine tri_seq ?_
  refine tri_region ?_
  refine s_mv (.inl rfl) (by conv => lhs; whnf) rfl rfl rfl ?_
  refine bnd1_elim h fun x1 q2 h => ?_
  refine s_callZ (kb := []) (ns := []) (v := .ptr (9, 0) 0 0) rfl rfl cl59 (ws_l1New p0 x1 q2) rfl (.cons (.free rfl) .nil) trivial memNil .nil memNil trivial rfl ⟨(allFree_one rfl), trivial⟩ memNil rfl (by first | (simp only [V.mat, V.mat1, V.mat0, matL, matT, List.length_map]; done) | (simp only [V.mat, V.mat1, V.mat0, matL, matT, List.length_map]; rfl)) rfl rfl rfl rfl ?_
  refine s_mv (.inr rfl) (by conv => lhs; whnf) rfl rfl rfl ?_
  refine rt_nil ?_
  refine tri_seq ?_
  refine tri_region ?_
  refine s_mv (.inl rfl) (by conv => lhs; whnf) rfl rfl rfl ?_
  refine bnd2_elim h fun x3 x4 q5 h => ?_
  refine s_callZ (kb := []) (ns := [(9, 0)]) (v := .agg [.sc (.int .i64 x3.cap), .ref (11, 1) 0 x3.l.length]) rfl rfl cl60 (ws_l15Bent x1 x3 x4 q5) rfl (.cons (.ptrOwn rfl) .nil) ⟨⟨_, rfl, rfl⟩, trivial⟩ (memCons (allFree_one rfl) memNil) (List.nodup_cons.2 ⟨List.not_mem_nil, .nil⟩) memNil trivial rfl ⟨(allFree_map mEntryV_free), trivial⟩ (memCons (allFree_one rfl) memNil) rfl (by first | (simp only [V.mat, V.mat1, V.mat0, matL, matT, List.length_map]; done) | (simp only [V.mat, V.mat1, V.mat0, matL, matT, List.length_map]; rfl)) rfl rfl rfl rfl ?_
  refine s_alloc rfl rfl rfl zc43 rfl rfl rfl rfl rfl ?_
  refine s_storeB rfl rfl rfl ty43 rfl rfl rfl rfl rfl ?_
  refine rt_nil ?_
  refine tri_seq ?_
  refine tri_region ?_
  refine s_mv (.inl rfl) (by conv => lhs; whnf) rfl rfl rfl ?_
  refine bnd2_elim h fun x6 x7 q8 h => ?_
  refine s_callZ (kb := []) (ns := [(9, 0)]) (v := .agg [.sc (.string x6.q.name), .sc (.int .i64 x6.q.ty), .sc (.int .i64 x6.kind), .ref (13, 3) 0 x6.l.length, .sc (.int .i64 x6.rank), .sc (.int .i64 x6.til)]) rfl rfl cl73 (ws_l15Any x4 x6 x7 q8) rfl (.cons (.ptrOwn rfl) .nil) ⟨⟨_, rfl, rfl⟩, trivial⟩ (memCons (allFree_one rfl) memNil) (List.nodup_cons.2 ⟨List.not_mem_nil, .nil⟩) memNil trivial rfl ⟨(allFree_map recV_free), trivial⟩ (memCons (allFree_one rfl) memNil) rfl (by first | (simp only [V.mat, V.mat1, V.mat0, matL, matT, List.length_map]; done) | (simp only [V.mat, V.mat1, V.mat0, matL, matT, List.length_map]; rfl)) rfl rfl rfl rfl ?_
  refine s_alloc rfl rfl rfl zc32 rfl rfl rfl rfl rfl ?_
  refine s_storeB rfl rfl rfl ty32 rfl rfl rfl rfl rfl ?_
  refine rt_nil ?_
  refine tri_cutI (ι := { p : (List Int) × Int × Int × ByteArray × Int × Int × (List Rec) // s_DrawKeep_j0 x3 x6 p.1 p.2.1 p.2.2.1 p.2.2.2.1 p.2.2.2.2.1 p.2.2.2.2.2.1 p.2.2.2.2.2.2 = some (r0, r1, r2) }) (fun p => inv_s_DrawKeep_0 x3 x6 p.1.1 p.1.2.1 p.1.2.2.1 p.1.2.2.2.1 p.1.2.2.2.2.1 p.1.2.2.2.2.2.1 p.1.2.2.2.2.2.2) ?_ ?_
  · skip
    refine tri_cutI (ι := { p : (List Int) × Int × Int × Bool // s_DrawKeep_j1 x3 x6 p.1 p.2.1 p.2.2.1 p.2.2.2 = some (r0, r1, r2) }) (fun p => inv_s_DrawKeep_1 x3 x6 p.1.1 p.1.2.1 p.1.2.2.1 p.1.2.2.2) ?_ ?_
    · skip
      refine tri_region ?_
      refine s_fieldAddr rfl rfl fd43_1 rfl rfl rfl rfl ?_
      refine s_load rfl rfl rfl rfl ty41 rfl (.inr rfl) (by conv => lhs; whnf) rfl rfl rfl ?_
      refine s_len (m := x3.l.length) rfl sl41 rfl rfl rfl rfl ?_
      refine s_of (st_gtr rfl rfl rfl) rfl rfl rfl rfl ?_
      refine s_mv (.inl rfl) (by conv => lhs; whnf) rfl rfl rfl ?_
      refine s_split (t := 18) rfl (fun b9 => ?_) (fun b9 => ?_)
      · replace h := cond_t h b9
        refine s_mv (.inl rfl) (by conv => lhs; whnf) rfl rfl rfl ?_
        refine bnd2_elim h fun x10 x11 q12 h => ?_
        refine s_callZ (kb := []) (ns := [(9, 0)]) (v := .sc (.bool x10)) rfl rfl cl68 (ws_l1Once x7 2 x10 x11 q12) rfl (.cons (.ptrOwn rfl) (.cons (.free rfl) .nil)) ⟨⟨_, rfl, rfl⟩, trivial⟩ (memCons (allFree_one rfl) memNil) (List.nodup_cons.2 ⟨List.not_mem_nil, .nil⟩) memNil trivial rfl trivial (memCons (allFree_one rfl) memNil) rfl rfl rfl rfl rfl rfl ?_
        refine s_pickT rfl rfl (by conv => lhs; whnf) rfl rfl rfl ?_
        refine rt_nil ?_
        refine Exists.intro ⟨(x11.b, x11.i, x11.h, x10), h⟩ ?_
        refine entX [((2, 0), ⟨43, 2, [[.sc (.int .i64 0), .nils]], false, true⟩, some (2, 0)), ((4, 0), ⟨32, 6, [[.sc (.string (⟨#[]⟩ : ByteArray)), .sc (.int .i64 0), .sc (.int .i64 0), .nils, .sc (.int .i64 0), .sc (.int .i64 0)]], false, true⟩, some (4, 0)), ((9, 0), ⟨115, 3, [[.lst 1 (List.map byteV x11.b), .sc (.int .i64 x11.i), .sc (.int .i64 x11.h)]], false, true⟩, some (9, 0)), ((6, 0), ⟨43, 2, [[.sc (.int .i64 x3.cap), .ref (11, 1) 0 x3.l.length]], false, true⟩, some (6, 0)), ((11, 1), ⟨32, 6, List.map mEntryV x3.l, false, true⟩, some (11, 1)), ((7, 0), ⟨32, 6, [[.sc (.string x6.q.name), .sc (.int .i64 x6.q.ty), .sc (.int .i64 x6.kind), .ref (13, 3) 0 x6.l.length, .sc (.int .i64 x6.rank), .sc (.int .i64 x6.til)]], false, true⟩, some (7, 0)), ((13, 3), ⟨60, 6, List.map recV x6.l, false, true⟩, some (13, 3))] [] ⟨⟨rfl, _, rfl, rfl, rfl, rfl, id, rowsCv_one (.cons (.free rfl) (.cons (.free rfl) .nil)), rowsZ_one rfl⟩, ⟨rfl, _, rfl, rfl, rfl, rfl, id, rowsCv_one (.cons (.free rfl) (.cons (.free rfl) (.cons (.free rfl) (.cons (.free rfl) (.cons (.free rfl) (.cons (.free rfl) .nil)))))), rowsZ_one rfl⟩, ⟨rfl, _, rfl, rfl, rfl, rfl, id, rowsCv_one (.cons (.free rfl) (.cons (.free rfl) (.cons (.free rfl) .nil))), rowsZ_one rfl⟩, ⟨rfl, _, rfl, rfl, rfl, rfl, id, rowsCv_one (.cons (.free rfl) (.cons (.ref rfl) .nil)), rowsZ_one rfl⟩, ⟨rfl, _, rfl, rfl, rfl, rfl, id, rowsCv_eq rfl (allFree_map mEntryV_free), rowsZ_map mEntryV_len⟩, ⟨rfl, _, rfl, rfl, rfl, rfl, id, rowsCv_one (.cons (.free rfl) (.cons (.free rfl) (.cons (.free rfl) (.cons (.ref rfl) (.cons (.free rfl) (.cons (.free rfl) .nil)))))), rowsZ_one rfl⟩, ⟨rfl, _, rfl, rfl, rfl, rfl, id, rowsCv_eq rfl (allFree_map recV_free), rowsZ_map recV_len⟩, trivial⟩ trivial rfl rfl ?_
        exact ⟨(.ptr rfl), (.ptr rfl), (.ptr rfl), (.ptr rfl), (.ptr rfl), (.free rfl), trivial⟩
      · replace h := cond_f h b9
        refine s_skip rfl rfl rfl ?_
        refine s_skip rfl rfl rfl ?_
        refine s_pickF rfl rfl (v := .sc (.bool false)) rfl rfl rfl rfl ?_
        refine rt_nil ?_
        refine Exists.intro ⟨(x7.b, x7.i, x7.h, false), h⟩ ?_
        refine entX [((2, 0), ⟨43, 2, [[.sc (.int .i64 0), .nils]], false, true⟩, some (2, 0)), ((4, 0), ⟨32, 6, [[.sc (.string (⟨#[]⟩ : ByteArray)), .sc (.int .i64 0), .sc (.int .i64 0), .nils, .sc (.int .i64 0), .sc (.int .i64 0)]], false, true⟩, some (4, 0)), ((9, 0), ⟨115, 3, [[.lst 1 (List.map byteV x7.b), .sc (.int .i64 x7.i), .sc (.int .i64 x7.h)]], false, true⟩, some (9, 0)), ((6, 0), ⟨43, 2, [[.sc (.int .i64 x3.cap), .ref (11, 1) 0 x3.l.length]], false, true⟩, some (6, 0)), ((11, 1), ⟨32, 6, List.map mEntryV x3.l, false, true⟩, some (11, 1)), ((7, 0), ⟨32, 6, [[.sc (.string x6.q.name), .sc (.int .i64 x6.q.ty), .sc (.int .i64 x6.kind), .ref (13, 3) 0 x6.l.length, .sc (.int .i64 x6.rank), .sc (.int .i64 x6.til)]], false, true⟩, some (7, 0)), ((13, 3), ⟨60, 6, List.map recV x6.l, false, true⟩, some (13, 3))] [] ⟨⟨rfl, _, rfl, rfl, rfl, rfl, id, rowsCv_one (.cons (.free rfl) (.cons (.free rfl) .nil)), rowsZ_one rfl⟩, ⟨rfl, _, rfl, rfl, rfl, rfl, id, rowsCv_one (.cons (.free rfl) (.cons (.free rfl) (.cons (.free rfl) (.cons (.free rfl) (.cons (.free rfl) (.cons (.free rfl) .nil)))))), rowsZ_one rfl⟩, ⟨rfl, _, rfl, rfl, rfl, rfl, id, rowsCv_one (.cons (.free rfl) (.cons (.free rfl) (.cons (.free rfl) .nil))), rowsZ_one rfl⟩, ⟨rfl, _, rfl, rfl, rfl, rfl, id, rowsCv_one (.cons (.free rfl) (.cons (.ref rfl) .nil)), rowsZ_one rfl⟩, ⟨rfl, _, rfl, rfl, rfl, rfl, id, rowsCv_eq rfl (allFree_map mEntryV_free), rowsZ_map mEntryV_len⟩, ⟨rfl, _, rfl, rfl, rfl, rfl, id, rowsCv_one (.cons (.free rfl) (.cons (.free rfl) (.cons (.free rfl) (.cons (.ref rfl) (.cons (.free rfl) (.cons (.free rfl) .nil)))))), rowsZ_one rfl⟩, ⟨rfl, _, rfl, rfl, rfl, rfl, id, rowsCv_eq rfl (allFree_map recV_free), rowsZ_map recV_len⟩, trivial⟩ trivial rfl rfl ?_
        exact ⟨(.ptr rfl), (.ptr rfl), (.ptr rfl), (.ptr rfl), (.ptr rfl), (.free rfl), trivial⟩
    · rintro ⟨⟨j1_0, j1_1, j1_2, j1_3⟩, h⟩
      replace h : s_DrawKeep_j1 x3 x6 j1_0 j1_1 j1_2 j1_3 = some (r0, r1, r2) := h
      unfold s_DrawKeep_j1 at h
      show Tri _ _ _ (inv_s_DrawKeep_1 x3 x6 j1_0 j1_1 j1_2 j1_3)
      refine tri_cond rfl (fun c9 => ?_) (fun c9 => ?_)
      · replace h := cond_t h c9
        refine tri_seq ?_
        refine tri_draw mixed ?_
        refine s_fieldAddr rfl rfl fd43_1 rfl rfl rfl rfl ?_
        refine s_load rfl rfl rfl rfl ty41 rfl (.inr rfl) (by conv => lhs; whnf) rfl rfl rfl ?_
        refine s_mv (.inl rfl) (by conv => lhs; whnf) rfl rfl rfl ?_
        refine s_fieldAddr rfl rfl fd43_1 rfl rfl rfl rfl ?_
        refine s_load rfl rfl rfl rfl ty41 rfl (.inr rfl) (by conv => lhs; whnf) rfl rfl rfl ?_
        refine s_len (m := x3.l.length) rfl sl41 rfl rfl rfl rfl ?_
        refine bnd2_elim h fun x10 x11 q12 h => ?_
        refine s_callZ (kb := []) (ns := [(9, 0)]) (v := .sc (.int .i64 x10)) rfl rfl cl61 (ws_l1Below (Cur.mk j1_0 j1_1 j1_2) (x3.l.length : Int) x10 x11 q12) rfl (.cons (.ptrOwn rfl) (.cons (.free rfl) .nil)) ⟨⟨_, rfl, rfl⟩, trivial⟩ (memCons (allFree_one rfl) memNil) (List.nodup_cons.2 ⟨List.not_mem_nil, .nil⟩) memNil trivial rfl trivial (memCons (allFree_one rfl) memNil) rfl rfl rfl rfl rfl rfl ?_
        refine bnd1_elim h fun x13 q14 h => ?_
        have q14a := (idx_some q14).1; have q14b := (idx_some q14).2
        refine s_indexZ rfl rfl rfl rfl sl41 rfl q14a (get_lt q14b) rfl rfl rfl ?_
        refine s_fieldAddr rfl rfl fd32_0 rfl rfl rfl rfl ?_
        refine s_load (v := .agg (questV x13.q)) rfl rfl rfl (rowG q14b) ty29 rfl (.inl rfl) rfl rfl rfl rfl ?_
        refine s_fieldAddr rfl rfl fd32_0 rfl rfl rfl rfl ?_
        refine s_store (rows' := [[.sc (.string x13.q.name), .sc (.int .i64 x13.q.ty), .sc (.int .i64 x6.kind), .ref (13, 3) 0 x6.l.length, .sc (.int .i64 x6.rank), .sc (.int .i64 x6.til)]]) rfl rfl rfl rfl ty29 rfl rfl rfl rfl rfl rfl ?_
        refine rt_nil ⟨by kernel_rfl, ?_⟩
        refine tri_seq ?_
        refine tri_region ?_
        refine s_fieldAddr rfl rfl fd32_1 rfl rfl rfl rfl ?_
        refine s_store (rows' := [[.sc (.string x13.q.name), .sc (.int .i64 x13.q.ty), .sc (.int .i64 1), .ref (13, 3) 0 x6.l.length, .sc (.int .i64 x6.rank), .sc (.int .i64 x6.til)]]) rfl rfl rfl rfl ty3 rfl rfl rfl rfl rfl rfl ?_
        refine rt_nil ?_
        refine tri_region ?_
        refine s_buildSlice (rows' := List.map recV ([] : List Rec)) rfl rfl rfl sl30 zc60 rfl rfl rfl rfl rfl rfl rfl rfl rfl ?_
        refine s_fieldAddr rfl rfl fd32_2 rfl rfl rfl rfl ?_
        refine s_store (rows' := [[.sc (.string x13.q.name), .sc (.int .i64 x13.q.ty), .sc (.int .i64 1), .ref (34, 0) 0 0, .sc (.int .i64 x6.rank), .sc (.int .i64 x6.til)]]) rfl rfl rfl rfl ty30 rfl rfl rfl rfl rfl rfl ?_
        refine rt_nil ?_
        refine Exists.intro ⟨(x11.b, x11.i, x11.h, x13.q.name, x13.q.ty, 1, ([] : List Rec)), h⟩ ?_
        refine entX [((2, 0), ⟨43, 2, [[.sc (.int .i64 0), .nils]], false, true⟩, some (2, 0)), ((4, 0), ⟨32, 6, [[.sc (.string (⟨#[]⟩ : ByteArray)), .sc (.int .i64 0), .sc (.int .i64 0), .nils, .sc (.int .i64 0), .sc (.int .i64 0)]], false, true⟩, some (4, 0)), ((9, 0), ⟨115, 3, [[.lst 1 (List.map byteV x11.b), .sc (.int .i64 x11.i), .sc (.int .i64 x11.h)]], false, true⟩, some (9, 0)), ((6, 0), ⟨43, 2, [[.sc (.int .i64 x3.cap), .ref (11, 1) 0 x3.l.length]], false, true⟩, some (6, 0)), ((11, 1), ⟨32, 6, List.map mEntryV x3.l, false, true⟩, some (11, 1)), ((7, 0), ⟨32, 6, [[.sc (.string x13.q.name), .sc (.int .i64 x13.q.ty), .sc (.int .i64 1), .ref (2007, 4) 0 ([] : List Rec).length, .sc (.int .i64 x6.rank), .sc (.int .i64 x6.til)]], false, true⟩, some (7, 0)), ((2007, 4), ⟨60, 6, List.map recV ([] : List Rec), false, true⟩, some (34, 0))] [] ⟨⟨rfl, _, rfl, rfl, rfl, rfl, id, rowsCv_one (.cons (.free rfl) (.cons (.free rfl) .nil)), rowsZ_one rfl⟩, ⟨rfl, _, rfl, rfl, rfl, rfl, id, rowsCv_one (.cons (.free rfl) (.cons (.free rfl) (.cons (.free rfl) (.cons (.free rfl) (.cons (.free rfl) (.cons (.free rfl) .nil)))))), rowsZ_one rfl⟩, ⟨rfl, _, rfl, rfl, rfl, rfl, id, rowsCv_one (.cons (.free rfl) (.cons (.free rfl) (.cons (.free rfl) .nil))), rowsZ_one rfl⟩, ⟨rfl, _, rfl, rfl, rfl, rfl, id, rowsCv_one (.cons (.free rfl) (.cons (.ref rfl) .nil)), rowsZ_one rfl⟩, ⟨rfl, _, rfl, rfl, rfl, rfl, id, rowsCv_eq rfl (allFree_map mEntryV_free), rowsZ_map mEntryV_len⟩, ⟨rfl, _, rfl, rfl, rfl, rfl, id, rowsCv_one (.cons (.free rfl) (.cons (.free rfl) (.cons (.free rfl) (.cons (.ref rfl) (.cons (.free rfl) (.cons (.free rfl) .nil)))))), rowsZ_one rfl⟩, ⟨rfl, _, rfl, rfl, rfl, rfl, id, rowsCv_eq rfl (allFree_map recV_free), rowsZ_map recV_len⟩, trivial⟩ trivial rfl rfl ?_
        exact ⟨(.ptr rfl), (.ptr rfl), (.ptr rfl), (.ptr rfl), (.ptr rfl), trivial⟩
      · replace h := cond_f h c9
        refine tri_skip ?_
        refine Exists.intro ⟨(j1_0, j1_1, j1_2, x6.q.name, x6.q.ty, x6.kind, x6.l), h⟩ ?_
        refine entX [((2, 0), ⟨43, 2, [[.sc (.int .i64 0), .nils]], false, true⟩, some (2, 0)), ((4, 0), ⟨32, 6, [[.sc (.string (⟨#[]⟩ : ByteArray)), .sc (.int .i64 0), .sc (.int .i64 0), .nils, .sc (.int .i64 0), .sc (.int .i64 0)]], false, true⟩, some (4, 0)), ((9, 0), ⟨115, 3, [[.lst 1 (List.map byteV j1_0), .sc (.int .i64 j1_1), .sc (.int .i64 j1_2)]], false, true⟩, some (9, 0)), ((6, 0), ⟨43, 2, [[.sc (.int .i64 x3.cap), .ref (11, 1) 0 x3.l.length]], false, true⟩, some (6, 0)), ((11, 1), ⟨32, 6, List.map mEntryV x3.l, false, true⟩, some (11, 1)), ((7, 0), ⟨32, 6, [[.sc (.string x6.q.name), .sc (.int .i64 x6.q.ty), .sc (.int .i64 x6.kind), .ref (2007, 4) 0 x6.l.length, .sc (.int .i64 x6.rank), .sc (.int .i64 x6.til)]], false, true⟩, some (7, 0)), ((2007, 4), ⟨60, 6, List.map recV x6.l, false, true⟩, some (13, 3))] [] ⟨⟨rfl, _, rfl, rfl, rfl, rfl, id, rowsCv_one (.cons (.free rfl) (.cons (.free rfl) .nil)), rowsZ_one rfl⟩, ⟨rfl, _, rfl, rfl, rfl, rfl, id, rowsCv_one (.cons (.free rfl) (.cons (.free rfl) (.cons (.free rfl) (.cons (.free rfl) (.cons (.free rfl) (.cons (.free rfl) .nil)))))), rowsZ_one rfl⟩, ⟨rfl, _, rfl, rfl, rfl, rfl, id, rowsCv_one (.cons (.free rfl) (.cons (.free rfl) (.cons (.free rfl) .nil))), rowsZ_one rfl⟩, ⟨rfl, _, rfl, rfl, rfl, rfl, id, rowsCv_one (.cons (.free rfl) (.cons (.ref rfl) .nil)), rowsZ_one rfl⟩, ⟨rfl, _, rfl, rfl, rfl, rfl, id, rowsCv_eq rfl (allFree_map mEntryV_free), rowsZ_map mEntryV_len⟩, ⟨rfl, _, rfl, rfl, rfl, rfl, id, rowsCv_one (.cons (.free rfl) (.cons (.free rfl) (.cons (.free rfl) (.cons (.ref rfl) (.cons (.free rfl) (.cons (.free rfl) .nil)))))), rowsZ_one rfl⟩, ⟨rfl, _, rfl, rfl, rfl, rfl, id, rowsCv_eq rfl (allFree_map recV_free), rowsZ_map recV_len⟩, trivial⟩ trivial rfl rfl ?_
        exact ⟨(.ptr rfl), (.ptr rfl), (.ptr rfl), (.ptr rfl), (.ptr rfl), trivial⟩
  · rintro ⟨⟨j0_0, j0_1, j0_2, j0_3, j0_4, j0_5, j0_6⟩, h⟩
    replace h : s_DrawKeep_j0 x3 x6 j0_0 j0_1 j0_2 j0_3 j0_4 j0_5 j0_6 = some (r0, r1, r2) := h
    unfold s_DrawKeep_j0 at h
    show Tri _ _ _ (inv_s_DrawKeep_0 x3 x6 j0_0 j0_1 j0_2 j0_3 j0_4 j0_5 j0_6)
    refine tri_seq ?_
    refine tri_draw mixed ?_
    refine s_loadR rfl rfl rfl rfl ty43 rfl rfl rfl ?_
    refine s_mv (.inl rfl) (by conv => lhs; whnf) rfl rfl rfl ?_
    refine bnd2_elim h fun x9 x10 q11 h => ?_
    refine s_callZ (kb := []) (ns := [(9, 0)]) (v := .sc (.int .i64 x9)) rfl rfl cl61 (ws_l1Below (Cur.mk j0_0 j0_1 j0_2) 30 x9 x10 q11) rfl (.cons (.ptrOwn rfl) (.cons (.free rfl) .nil)) ⟨⟨_, rfl, rfl⟩, trivial⟩ (memCons (allFree_one rfl) memNil) (List.nodup_cons.2 ⟨List.not_mem_nil, .nil⟩) memNil trivial rfl trivial (memCons (allFree_one rfl) memNil) rfl rfl rfl rfl rfl rfl ?_
    refine s_loadR rfl rfl rfl rfl ty32 rfl rfl rfl ?_
    refine s_storeB rfl rfl rfl ty43 rfl rfl rfl rfl rfl ?_
    refine s_mv (.inr rfl) (by conv => lhs; whnf) rfl rfl rfl ?_
    refine s_storeB rfl rfl rfl ty32 rfl rfl rfl rfl rfl ?_
    refine rt_nil ⟨by kernel_rfl, ?_⟩
    refine tri_ret ?_
    have e0 := (some3 h).1; have e1 := (some3 h).2.1; have e2 := (some3 h).2.2; subst e0; subst e1; subst e2
    exact endY (v' := .tup [.agg [.sc (.int .i64 x3.cap), .ref (2000, 101) 0 x3.l.length], .sc (.int .i64 x9), .agg [.sc (.string j0_3), .sc (.int .i64 j0_4), .sc (.int .i64 j0_5), .ref (2000, 303) 0 j0_6.length, .sc (.int .i64 x6.rank), .sc (.int .i64 x6.til)]]) [((2000, 101), ⟨32, 6, List.map mEntryV x3.l, false, true⟩, some (11, 1)), ((2000, 303), ⟨60, 6, List.map recV j0_6, false, true⟩, some (2007, 4))] [] (rvC (resCell rfl rfl ty43) (rvC (resTmp rfl) (rvC (resCell rfl rfl ty32) rvN))) ⟨⟨rfl, _, rfl, rfl, rfl, rfl, id, rowsCv_eq rfl (allFree_map mEntryV_free), rowsZ_map mEntryV_len⟩, ⟨rfl, _, rfl, rfl, rfl, rfl, id, rowsCv_eq rfl (allFree_map recV_free), rowsZ_map recV_len⟩, trivial⟩ trivial rfl rfl (by kernel_rfl) (by first | (simp only [V.mat, V.mat1, V.mat0, matL, matT, List.length_map]; done) | (simp only [V.mat, V.mat1, V.mat0, matL, matT, List.length_map]; rfl)) (CvL.tup (.cons (CvL.agg (.cons (.free rfl) (.cons (.ref rfl) .nil))) (.cons (.free rfl) (.cons (CvL.agg (.cons (.free rfl) (.cons (.free rfl) (.cons (.free rfl) (.cons (.ref rfl) (.cons (.free rfl) (.cons (.free rfl) .nil))))))) .nil))))

/- impl.Record] -/

set_option maxRecDepth 4000 in
set_option maxHeartbeats 800000 in
theorem wslices_Clone_Record (p0 : List Rec) (r0 : List Rec) (h : slices_Clone_Record p0 = some r0) : Runs Tryd.prog 105 [.lst 6 (List.map recV p0)] [] (.own 60 6 (List.map recV r0)) [] := by
  unfold slices_Clone_Record at h
  refine runsR [.tmp 2] Tryd.func105 rfl rfl rfl rfl ?_
  rw [Tryd.ntmps105]
  refine tri_seq ?_
  refine tri_region ?_
  refine s_mv (.inr rfl) (v := .nils) rfl rfl rfl rfl ?_
  refine rt_nil ?_
  refine tri_seq ?_
  refine tri_seq ?_
  refine tri_isNil rfl (by conv => lhs; whnf) rfl rfl rfl rfl rfl slenL sl30 rfl rfl rfl (fun b1v b1 => ?_)
  refine tri_cond rfl (fun c2 => ?_) (fun c2 => ?_)
  · obtain rfl : p0 = [] := List.eq_nil_of_length_eq_zero (b1 c2)
    refine tri_seq ?_
    refine tri_region ?_
    refine s_mv (.inr rfl) (v := .nils) rfl rfl rfl rfl ?_
    refine rt_nil ?_
    refine tri_ret ?_
    replace h : some ([] : List Rec) = some r0 := by simpa [grd] using h
    have e0 := (some1 h); subst e0
    exact endY (v' := .ref (2000, 0) 0 (([] : List Rec).length)) [((2000, 0), ⟨60, 6, List.map recV ([] : List Rec), false, true⟩, none)] [] (rvC (resTmp rfl) rvN) ⟨rfl, trivial⟩ trivial rfl rfl (by kernel_rfl) (by first | (simp only [V.mat, V.mat1, V.mat0, matL, matT, List.length_map]; done) | (simp only [V.mat, V.mat1, V.mat0, matL, matT, List.length_map]; rfl)) (.nilRef rfl)
  · skip
    refine tri_skip ?_
    refine tri_seq ?_
    refine tri_region ?_
    refine s_buildSlice (rows' := List.map recV ([] : List Rec)) rfl rfl rfl sl30 zc60 rfl rfl rfl rfl rfl rfl rfl rfl rfl ?_
    refine s_mv (.inl rfl) (by conv => lhs; whnf) rfl rfl rfl ?_
    refine grd_elim h fun g3 h => ?_
    refine s_appL rfl rfl rfl sl30 zc60 rfl rfl rfl rfl rfl rfl src_lst g3 rfl rfl ?_
    refine s_mv (.inr rfl) (by conv => lhs; whnf) rfl rfl rfl ?_
    refine rt_nil ?_
    refine tri_ret ?_
    have e0 := (some1 h); subst e0
    exact endY (v' := .ref (2000, 0) 0 ((([] : List Rec) ++ p0).length)) [((2000, 0), ⟨60, 6, List.map recV (([] : List Rec) ++ p0), false, true⟩, some (7, 0))] [] (rvC (resTmp rfl) rvN) ⟨⟨rfl, _, rfl, rfl, rfl, rfl, id, rowsCv_eq rfl (allFree_map recV_free), rowsZ_map recV_len⟩, trivial⟩ trivial rfl rfl (by kernel_rfl) (by first | (simp only [V.mat, V.mat1, V.mat0, matL, matT, List.length_map]; done) | (simp only [V.mat, V.mat1, V.mat0, matL, matT, List.length_map]; rfl)) (.ref rfl)

/- impl.copyEntry -/

set_option maxRecDepth 4000 in
set_option maxHeartbeats 800000 in
theorem wi_copyEntry (p0 : MEntry) (r0 : MEntry) (h : i_copyEntry p0 = some r0) : Runs Tryd.prog 74 [.agg (mEntryV p0)] [] (.agg [.sc (.string r0.q.name), .sc (.int .i64 r0.q.ty), .sc (.int .i64 r0.kind), .own 60 6 (List.map recV r0.l), .sc (.int .i64 r0.rank), .sc (.int .i64 r0.til)]) [] := by
  unfold i_copyEntry at h
  refine runsR [.cell 2 32] Tryd.func74 rfl rfl rfl rfl ?_
  rw [Tryd.ntmps74]
  refine tri_seq ?_
  refine tri_region ?_
  refine s_box rfl rfl rfl rfl rfl rfl rfl ?_
  refine s_alloc rfl rfl rfl zc32 rfl rfl rfl rfl rfl ?_
  refine rt_nil ?_
  refine tri_seq ?_
  refine tri_region ?_
  refine s_fieldAddr rfl rfl fd32_2 rfl rfl rfl rfl ?_
  refine s_load rfl rfl rfl rfl ty30 rfl (.inr rfl) (by conv => lhs; whnf) rfl rfl rfl ?_
  refine bnd1_elim h fun x1 q2 h => ?_
  refine s_callN (kb := []) (ns := []) (v := .ref (5, 0) 0 x1.length) rfl rfl cl105 (wslices_Clone_Record p0.l x1 q2) rfl (.cons (.free rfl) .nil) trivial memNil .nil memNil rfl ⟨(allSc_map recV_sc), trivial⟩ memNil rfl (by first | (simp only [V.mat, V.mat1, V.mat0, matL, matT, List.length_map]; done) | (simp only [V.mat, V.mat1, V.mat0, matL, matT, List.length_map]; rfl)) rfl rfl rfl rfl ?_
  refine s_fieldAddr rfl rfl fd32_2 rfl rfl rfl rfl ?_
  refine s_store (rows' := [[.sc (.string p0.q.name), .sc (.int .i64 p0.q.ty), .sc (.int .i64 p0.kind), .ref (5, 0) 0 x1.length, .sc (.int .i64 p0.rank), .sc (.int .i64 p0.til)]]) rfl rfl rfl rfl ty30 rfl rfl rfl rfl rfl rfl ?_
  refine rt_nil ?_
  refine tri_seq ?_
  refine tri_region ?_
  refine s_loadR rfl rfl rfl rfl ty32 rfl rfl rfl ?_
  refine s_storeB rfl rfl rfl ty32 rfl rfl rfl rfl rfl ?_
  refine rt_nil ?_
  refine tri_ret ?_
  have e0 := (some1 h); subst e0
  exact endY (v' := .agg [.sc (.string p0.q.name), .sc (.int .i64 p0.q.ty), .sc (.int .i64 p0.kind), .ref (2000, 3) 0 x1.length, .sc (.int .i64 p0.rank), .sc (.int .i64 p0.til)]) [((2000, 3), ⟨60, 6, List.map recV x1, false, true⟩, some (5, 0))] [] (rvC (resCell rfl rfl ty32) rvN) ⟨⟨rfl, _, rfl, rfl, rfl, rfl, id, rowsCv_eq rfl (allFree_map recV_free), rowsZ_map recV_len⟩, trivial⟩ trivial rfl rfl (by kernel_rfl) (by first | (simp only [V.mat, V.mat1, V.mat0, matL, matT, List.length_map]; done) | (simp only [V.mat, V.mat1, V.mat0, matL, matT, List.length_map]; rfl)) (CvL.agg (.cons (.free rfl) (.cons (.free rfl) (.cons (.free rfl) (.cons (.ref rfl) (.cons (.free rfl) (.cons (.free rfl) .nil)))))))

/- impl.copyCache -/
def inv_i_copyCache_0 (p0 : MCache) (v0_0 : List MEntry) (v0_1 : Nat) : St := mkT 25 [(2, .ptr (2, 0) 0 0), (3, .ptr (3, 0) 0 0), (10, .lst 6 (List.map mEntryV p0.l)), (11, .sc (.int .i64 (p0.l.length : Int))), (12, .sc (.int .i64 (v0_1 : Int)))] [((2, 0), some ⟨43, 2, [[.sc (.int .i64 0), .nils]], false, true⟩), ((3, 0), some ⟨43, 2, [[.sc (.int .i64 p0.cap), .ref (2003, 2) 0 v0_0.length]], false, true⟩), ((2003, 2), some ⟨32, 6, List.map mEntryV v0_0, false, true⟩)]
set_option maxRecDepth 4000 in
set_option maxHeartbeats 800000 in
theorem wi_copyCache (p0 : MCache) (r0 : MCache) (h : i_copyCache p0 = some r0) : Runs Tryd.prog 62 [.agg (mCacheV p0)] [] (.agg [.sc (.int .i64 r0.cap), .own 32 6 (List.map mEntryV r0.l)]) [] := by
  unfold i_copyCache at h
  refine runsR [.cell 2 43] Tryd.func62 rfl rfl rfl rfl ?_
  rw [Tryd.ntmps62]
  refine tri_seq ?_
  refine tri_region ?_
  refine s_box rfl rfl rfl rfl rfl rfl rfl ?_
  refine s_alloc rfl rfl rfl zc43 rfl rfl rfl rfl rfl ?_
  refine rt_nil ?_
  refine tri_seq ?_
  refine tri_region ?_
  refine s_fieldAddr rfl rfl fd43_0 rfl rfl rfl rfl ?_
  refine s_load rfl rfl rfl rfl ty3 rfl (.inr rfl) (by conv => lhs; whnf) rfl rfl rfl ?_
  refine s_build (cells' := [.sc (.int .i64 p0.cap), .nils]) rfl stc43 rfl rfl rfl rfl rfl rfl rfl ?_
  refine s_alloc rfl rfl rfl zc43 rfl rfl rfl rfl rfl ?_
  refine s_storeB rfl rfl rfl ty43 rfl rfl rfl rfl rfl ?_
  refine rt_nil ?_
  refine tri_seq ?_
  refine tri_seq ?_
  refine tri_region ?_
  refine s_fieldAddr rfl rfl fd43_1 rfl rfl rfl rfl ?_
  refine s_load rfl rfl rfl rfl ty41 rfl (.inr rfl) (by conv => lhs; whnf) rfl rfl rfl ?_
  refine s_lenL rfl sl41 rfl rfl rfl rfl ?_
  refine s_mv (.inl rfl) (v := .sc (.int .i64 0)) rfl rfl rfl rfl ?_
  refine rt_nil ?_
  refine tri_block ?_
  refine tri_aggM 0 1 rfl rfl (fun hl0 => ?_)
  refine tri_loop (ι := { p : (List MEntry) × (List MEntry) × Nat // p0.l.drop p.2.2 = p.1 ∧ i_copyCache_l0 p0 p.1 p.2.1 p.2.2 = some r0 }) (fun p => inv_i_copyCache_0 p0 p.1.2.1 p.1.2.2) (fun p => p.1.1.length) ⟨(p0.l, ([] : List MEntry), 0), rfl, h⟩ ?_ ?_
  · skip
    refine entX [((2, 0), ⟨43, 2, [[.sc (.int .i64 0), .nils]], false, true⟩, some (2, 0)), ((3, 0), ⟨43, 2, [[.sc (.int .i64 p0.cap), .ref (2003, 2) 0 ([] : List MEntry).length]], false, true⟩, some (3, 0)), ((2003, 2), ⟨32, 6, List.map mEntryV ([] : List MEntry), false, true⟩, none)] [] ⟨⟨rfl, _, rfl, rfl, rfl, rfl, id, rowsCv_one (.cons (.free rfl) (.cons (.free rfl) .nil)), rowsZ_one rfl⟩, ⟨rfl, _, rfl, rfl, rfl, rfl, id, rowsCv_one (.cons (.free rfl) (.cons (.nilRef rfl) .nil)), rowsZ_one rfl⟩, rfl, trivial⟩ trivial rfl rfl ?_
    exact ⟨(.ptr rfl), (.ptr rfl), (.free rfl), (.free rfl), (.free rfl), trivial⟩
  · rintro ⟨⟨lrs0, v0_0, v0_1⟩, hd0, h⟩
    replace hd0 : p0.l.drop v0_1 = lrs0 := hd0
    replace h : i_copyCache_l0 p0 lrs0 v0_0 v0_1 = some r0 := h
    show Tri _ _ _ (inv_i_copyCache_0 p0 v0_0 v0_1)
    refine tri_seq ?_
    refine tri_region ?_
    refine s_of (st_lss rfl rfl rfl) rfl rfl rfl rfl ?_
    refine rt_nil ?_
    refine tri_seq ?_
    refine tri_cond rfl (fun c1 => ?_) (fun c1 => ?_)
    · refine drop_elim hd0 c1 fun e0 rs0 he hx0 hn0 => ?_
      subst he
      rw [i_copyCache_l0] at h
      refine tri_skip ?_
      refine tri_seq ?_
      refine tri_block ?_
      refine tri_seq ?_
      refine tri_region ?_
      refine s_indexF (i := v0_1) rfl rfl rfl sl41 (get_ltM hx0) rfl rfl rfl ?_
      refine s_loadFR rfl rfl (rowG hx0) ty32 rfl rfl rfl ?_
      refine s_alloc rfl rfl rfl zc32 rfl rfl rfl rfl rfl ?_
      refine s_storeB rfl rfl rfl ty32 rfl rfl rfl rfl rfl ?_
      refine rt_nil ?_
      refine tri_draw mixed ?_
      refine s_fieldAddr rfl rfl fd43_1 rfl rfl rfl rfl ?_
      refine s_load rfl rfl rfl rfl ty41 rfl (.inr rfl) (by conv => lhs; whnf) rfl rfl rfl ?_
      refine s_loadR rfl rfl rfl rfl ty32 rfl rfl rfl ?_
      refine bnd1_elim h fun x2 q3 h => ?_
      refine s_callNF (kb := []) (ns := []) (v := .agg [.sc (.string x2.q.name), .sc (.int .i64 x2.q.ty), .sc (.int .i64 x2.kind), .ref (19, 3) 0 x2.l.length, .sc (.int .i64 x2.rank), .sc (.int .i64 x2.til)]) (D := [(19, 3)]) rfl rfl cl74 (wi_copyEntry e0 x2 q3) rfl (.cons (relAgg rfl) .nil) trivial memNil .nil memNil rfl ⟨(allSc_map recV_sc), trivial⟩ memNil rfl (by first | (simp only [V.mat, V.mat1, V.mat0, matL, matT, List.length_map]; done) | (simp only [V.mat, V.mat1, V.mat0, matL, matT, List.length_map]; rfl)) rfl ⟨⟨rfl, rfl, _, rfl, rfl⟩, trivial⟩ (relAggL (.cons (.free rfl) (.cons (.free rfl) (.cons (.free rfl) (.cons (lendL rfl (.head _) rfl recV_free recV_len) (.cons (.free rfl) (.cons (.free rfl) .nil))))))) rfl rfl rfl ?_
      refine s_buildSlice (rows' := List.map mEntryV [x2]) rfl rfl rfl sl41 zc32 rfl rfl rfl rfl rfl rfl rfl rfl rfl ?_
      refine grd_elim h fun g4 h => ?_
      refine s_appL rfl rfl rfl sl41 zc32 rfl rfl rfl rfl rfl rfl (src_refL rfl rfl) g4 rfl rfl ?_
      refine s_fieldAddr rfl rfl fd43_1 rfl rfl rfl rfl ?_
      refine s_store (rows' := [[.sc (.int .i64 p0.cap), .ref (21, 0) 0 ((v0_0 ++ [x2]).length)]]) rfl rfl rfl rfl ty41 rfl rfl rfl rfl rfl rfl ?_
      refine rt_nil ⟨by kernel_rfl, ?_⟩
      refine tri_region ?_
      refine s_inc (a := v0_1) (b := 1) rfl rfl rfl rfl (by have := get_lt hx0; have := hl0; omega) rfl rfl rfl ?_
      refine s_mv (.inl rfl) (by conv => lhs; whnf) rfl rfl rfl ?_
      refine rt_nil ?_
      refine Exists.intro ⟨(rs0, v0_0 ++ [x2], (v0_1 + 1)), hn0, h⟩ (And.intro (Nat.lt_succ_self _) ?_)
      refine entX [((2, 0), ⟨43, 2, [[.sc (.int .i64 0), .nils]], false, true⟩, some (2, 0)), ((3, 0), ⟨43, 2, [[.sc (.int .i64 p0.cap), .ref (2003, 2) 0 (v0_0 ++ [x2]).length]], false, true⟩, some (3, 0)), ((2003, 2), ⟨32, 6, List.map mEntryV (v0_0 ++ [x2]), false, true⟩, some (21, 0))] [] ⟨⟨rfl, _, rfl, rfl, rfl, rfl, id, rowsCv_one (.cons (.free rfl) (.cons (.free rfl) .nil)), rowsZ_one rfl⟩, ⟨rfl, _, rfl, rfl, rfl, rfl, id, rowsCv_one (.cons (.free rfl) (.cons (.ref rfl) .nil)), rowsZ_one rfl⟩, ⟨rfl, _, rfl, rfl, rfl, rfl, id, rowsCv_eq rfl (allFree_map mEntryV_free), rowsZ_map mEntryV_len⟩, trivial⟩ trivial rfl rfl ?_
      exact ⟨(.ptr rfl), (.ptr rfl), (.free rfl), (.free rfl), (.free rfl), trivial⟩
    · have he := drop_f hd0 c1; subst he
      rw [i_copyCache_l0] at h
      refine tri_exit ?_
      refine tri_seq ?_
      refine tri_region ?_
      refine s_loadR rfl rfl rfl rfl ty43 rfl rfl rfl ?_
      refine s_storeB rfl rfl rfl ty43 rfl rfl rfl rfl rfl ?_
      refine rt_nil ?_
      refine tri_ret ?_
      have e0 := (some1 h); subst e0
      exact endY (v' := .agg [.sc (.int .i64 p0.cap), .ref (2000, 1) 0 v0_0.length]) [((2000, 1), ⟨32, 6, List.map mEntryV v0_0, false, true⟩, some (2003, 2))] [] (rvC (resCell rfl rfl ty43) rvN) ⟨⟨rfl, _, rfl, rfl, rfl, rfl, id, rowsCv_eq rfl (allFree_map mEntryV_free), rowsZ_map mEntryV_len⟩, trivial⟩ trivial rfl rfl (by kernel_rfl) (by first | (simp only [V.mat, V.mat1, V.mat0, matL, matT, List.length_map]; done) | (simp only [V.mat, V.mat1, V.mat0, matL, matT, List.length_map]; rfl)) (CvL.agg (.cons (.free rfl) (.cons (.ref rfl) .nil)))

/- stringslite.IndexByte -/

set_option maxRecDepth 4000 in
set_option maxHeartbeats 800000 in
theorem winternal_stringslite_IndexByte (p0 : ByteArray) (p1 : Int) (r0 : Int) (h : internal_stringslite_IndexByte p0 p1 = some r0) : Runs Tryd.prog 133 [.sc (.string p0), .sc (.int .u8 p1)] [] (.sc (.int .i64 r0)) [] := by
  unfold internal_stringslite_IndexByte at h
  refine runsR [.tmp 4] Tryd.func133 rfl rfl rfl rfl ?_
  rw [Tryd.ntmps133]
  refine tri_seq ?_
  refine tri_region ?_
  refine s_mv (.inr rfl) (v := .sc (.int .i64 0)) rfl rfl rfl rfl ?_
  refine rt_nil ?_
  refine tri_seq ?_
  refine tri_region ?_
  refine s_mv (.inl rfl) (by conv => lhs; whnf) rfl rfl rfl ?_
  refine s_mv (.inl rfl) (by conv => lhs; whnf) rfl rfl rfl ?_
  refine s_idxByteString rfl rfl rfl Tryd.func137 (by kernel_rfl) (by kernel_rfl) (by kernel_rfl) (by kernel_rfl) rfl rfl rfl ?_
  refine s_mv (.inr rfl) (by conv => lhs; whnf) rfl rfl rfl ?_
  refine rt_nil ?_
  refine tri_ret ?_
  have e0 := (some1 h); subst e0
  exact endY [] [] (rvC (resTmp rfl) rvN) trivial trivial rfl rfl rfl rfl (.free rfl)

/- stringslite.Index -/
def inv_internal_stringslite_Index_0 (p0 : ByteArray) (p1 : ByteArray) (j0_0 : Bool) : St := mkT 143 [(0, .sc (.string p0)), (1, .sc (.string p1)), (5, .sc (.int .i64 (p1.size : Int))), (16, .sc (.bool j0_0))] []
set_option maxRecDepth 4000 in
set_option maxHeartbeats 800000 in
theorem winternal_stringslite_Index (p0 : ByteArray) (p1 : ByteArray) (r0 : Int) (h : internal_stringslite_Index p0 p1 = some r0) : Runs Tryd.prog 131 [.sc (.string p0), .sc (.string p1)] [] (.sc (.int .i64 r0)) [] := by
  unfold internal_stringslite_Index at h
  refine runsR [.tmp 4] Tryd.func131 rfl rfl rfl rfl ?_
  rw [Tryd.ntmps131]
  refine tri_seq ?_
  refine tri_region ?_
  refine s_mv (.inr rfl) (v := .sc (.int .i64 0)) rfl rfl rfl rfl ?_
  refine rt_nil ?_
  refine tri_seq ?_
  refine tri_region ?_
  refine s_mv (.inl rfl) (by conv => lhs; whnf) rfl rfl rfl ?_
  refine s_of (st_lenS rfl rfl iss9) rfl rfl rfl rfl ?_
  refine s_mv (.inr rfl) (by conv => lhs; whnf) rfl rfl rfl ?_
  refine rt_nil ?_
  refine tri_seq ?_
  refine tri_block ?_
  refine tri_cutI (ι := { p : Bool // internal_stringslite_Index_j0 p0 p1 p = some r0 }) (fun p => inv_internal_stringslite_Index_0 p0 p1 p.1) ?_ ?_
  · skip
    refine tri_region ?_
    refine s_mv (.inl rfl) (by conv => lhs; whnf) rfl rfl rfl ?_
    refine s_of (st_eqI rfl rfl rfl) rfl rfl rfl rfl ?_
    refine s_mv (.inl rfl) (by conv => lhs; whnf) rfl rfl rfl ?_
    refine s_split (t := 19) rfl (fun b1 => ?_) (fun b1 => ?_)
    · replace h := cond_t h b1
      refine s_skip rfl rfl rfl ?_
      refine s_skip rfl rfl rfl ?_
      refine s_skip rfl rfl rfl ?_
      refine s_pickT rfl rfl (v := .sc (.bool true)) rfl rfl rfl rfl ?_
      refine s_mv (.inr rfl) (by conv => lhs; whnf) rfl rfl rfl ?_
      refine rt_nil ?_
      refine Exists.intro ⟨true, h⟩ ?_
      refine entX [] [] trivial trivial rfl rfl ?_
      exact ⟨(.free rfl), (.free rfl), (.free rfl), (.free rfl), trivial⟩
    · replace h := cond_f h b1
      refine s_mv (.inl rfl) (by conv => lhs; whnf) rfl rfl rfl ?_
      refine s_mv (.inl rfl) (by conv => lhs; whnf) rfl rfl rfl ?_
      refine s_of (st_eqS rfl rfl rfl) rfl rfl rfl rfl ?_
      refine s_pickF rfl rfl (by conv => lhs; whnf) rfl rfl rfl ?_
      refine s_mv (.inr rfl) (by conv => lhs; whnf) rfl rfl rfl ?_
      refine rt_nil ?_
      refine Exists.intro ⟨decide (p1 = p0), h⟩ ?_
      refine entX [] [] trivial trivial rfl rfl ?_
      exact ⟨(.free rfl), (.free rfl), (.free rfl), (.free rfl), trivial⟩
  · rintro ⟨j0_0, h⟩
    replace h : internal_stringslite_Index_j0 p0 p1 j0_0 = some r0 := h
    unfold internal_stringslite_Index_j0 at h
    show Tri _ _ _ (inv_internal_stringslite_Index_0 p0 p1 j0_0)
    refine tri_cond rfl (fun c1 => ?_) (fun c1 => ?_)
    · replace h := cond_t h c1
      refine tri_seq ?_
      refine tri_region ?_
      refine s_mv (.inr rfl) (v := .sc (.int .i64 0)) rfl rfl rfl rfl ?_
      refine rt_nil ?_
      refine tri_ret ?_
      have e0 := (some1 h); subst e0
      exact endY [] [] (rvC (resTmp rfl) rvN) trivial trivial rfl rfl rfl rfl (.free rfl)
    · replace h := cond_f h c1
      refine tri_seq ?_
      refine tri_region ?_
      refine s_mv (.inl rfl) (by conv => lhs; whnf) rfl rfl rfl ?_
      refine s_of (st_eqI rfl rfl rfl) rfl rfl rfl rfl ?_
      refine s_mv (.inr rfl) (by conv => lhs; whnf) rfl rfl rfl ?_
      refine rt_nil ?_
      refine tri_cond rfl (fun c2 => ?_) (fun c2 => ?_)
      · replace h := cond_t h c2
        refine tri_seq ?_
        refine tri_region ?_
        refine s_mv (.inl rfl) (by conv => lhs; whnf) rfl rfl rfl ?_
        refine s_mv (.inl rfl) (by conv => lhs; whnf) rfl rfl rfl ?_
        refine bnd1_elim h fun x3 q4 h => ?_
        refine s_idxS rfl rfl rfl iss9 q4 rfl rfl rfl ?_
        refine bnd1_elim h fun x5 q6 h => ?_
        refine s_callN (kb := []) (ns := []) (v := .sc (.int .i64 x5)) rfl rfl cl133 (winternal_stringslite_IndexByte p0 x3 x5 q6) rfl (.cons (.free rfl) (.cons (.free rfl) .nil)) trivial memNil .nil memNil rfl trivial memNil rfl rfl rfl rfl rfl rfl ?_
        refine s_mv (.inr rfl) (by conv => lhs; whnf) rfl rfl rfl ?_
        refine rt_nil ?_
        refine tri_ret ?_
        have e0 := (some1 h); subst e0
        exact endY [] [] (rvC (resTmp rfl) rvN) trivial trivial rfl rfl rfl rfl (.free rfl)
      · replace h := cond_f h c2
        refine tri_seq ?_
        refine tri_region ?_
        refine s_mv (.inl rfl) (by conv => lhs; whnf) rfl rfl rfl ?_
        refine s_mv (.inl rfl) (by conv => lhs; whnf) rfl rfl rfl ?_
        refine s_of (st_lenS rfl rfl iss9) rfl rfl rfl rfl ?_
        refine s_of (st_geq rfl rfl rfl) rfl rfl rfl rfl ?_
        refine s_mv (.inr rfl) (by conv => lhs; whnf) rfl rfl rfl ?_
        refine rt_nil ?_
        refine tri_cond rfl (fun c7 => ?_) (fun c7 => ?_)
        · replace h := cond_t h c7
          refine tri_seq ?_
          refine tri_region ?_
          refine s_mv (.inr rfl) (v := .sc (.int .i64 (-1))) rfl rfl rfl rfl ?_
          refine rt_nil ?_
          refine tri_ret ?_
          have e0 := (some1 h); subst e0
          exact endY [] [] (rvC (resTmp rfl) rvN) trivial trivial rfl rfl rfl rfl (.free rfl)
        · replace h := cond_f h c7
          refine tri_seq ?_
          refine tri_region ?_
          refine s_mv (.inl rfl) (by conv => lhs; whnf) rfl rfl rfl ?_
          cases h

/- strings.Index -/

set_option maxRecDepth 4000 in
set_option maxHeartbeats 800000 in
theorem wstrings_Index (p0 : ByteArray) (p1 : ByteArray) (r0 : Int) (h : strings_Index p0 p1 = some r0) : Runs Tryd.prog 127 [.sc (.string p0), .sc (.string p1)] [] (.sc (.int .i64 r0)) [] := by
  unfold strings_Index at h
  refine runsR [.tmp 4] Tryd.func127 rfl rfl rfl rfl ?_
  rw [Tryd.ntmps127]
  refine tri_seq ?_
  refine tri_region ?_
  refine s_mv (.inr rfl) (v := .sc (.int .i64 0)) rfl rfl rfl rfl ?_
  refine rt_nil ?_
  refine tri_seq ?_
  refine tri_region ?_
  refine s_mv (.inl rfl) (by conv => lhs; whnf) rfl rfl rfl ?_
  refine s_mv (.inl rfl) (by conv => lhs; whnf) rfl rfl rfl ?_
  refine bnd1_elim h fun x1 q2 h => ?_
  refine s_callN (kb := []) (ns := []) (v := .sc (.int .i64 x1)) rfl rfl cl131 (winternal_stringslite_Index p0 p1 x1 q2) rfl (.cons (.free rfl) (.cons (.free rfl) .nil)) trivial memNil .nil memNil rfl trivial memNil rfl rfl rfl rfl rfl rfl ?_
  refine s_mv (.inr rfl) (by conv => lhs; whnf) rfl rfl rfl ?_
  refine rt_nil ?_
  refine tri_ret ?_
  have e0 := (some1 h); subst e0
  exact endY [] [] (rvC (resTmp rfl) rvN) trivial trivial rfl rfl rfl rfl (.free rfl)

/- strings.Count -/
def inv_strings_Count_0 (p1 : ByteArray) (v0_0 : ByteArray) (v0_1 : Int) : St := mkT 34 [(0, .sc (.string v0_0)), (1, .sc (.string p1)), (5, .sc (.int .i64 v0_1))] []
set_option maxRecDepth 4000 in
set_option maxHeartbeats 800000 in
theorem wstrings_Count (p0 : ByteArray) (p1 : ByteArray) (r0 : Int) (h : strings_Count p0 p1 = some r0) : Runs Tryd.prog 126 [.sc (.string p0), .sc (.string p1)] [] (.sc (.int .i64 r0)) [] := by
  unfold strings_Count at h
  refine runsR [.tmp 4] Tryd.func126 rfl rfl rfl rfl ?_
  rw [Tryd.ntmps126]
  refine tri_seq ?_
  refine tri_region ?_
  refine s_mv (.inr rfl) (v := .sc (.int .i64 0)) rfl rfl rfl rfl ?_
  refine rt_nil ?_
  refine tri_seq ?_
  refine tri_seq ?_
  refine tri_region ?_
  refine s_mv (.inl rfl) (by conv => lhs; whnf) rfl rfl rfl ?_
  refine s_of (st_lenS rfl rfl iss9) rfl rfl rfl rfl ?_
  refine s_of (st_eqI rfl rfl rfl) rfl rfl rfl rfl ?_
  refine rt_nil ?_
  refine tri_cond rfl (fun c1 => ?_) (fun c1 => ?_)
  · replace h := cond_t h c1
    refine tri_seq ?_
    refine tri_region ?_
    refine s_mv (.inl rfl) (by conv => lhs; whnf) rfl rfl rfl ?_
    cases h
  · replace h := cond_f h c1
    refine tri_skip ?_
    refine tri_seq ?_
    refine tri_seq ?_
    refine tri_region ?_
    refine s_mv (.inl rfl) (by conv => lhs; whnf) rfl rfl rfl ?_
    refine s_of (st_lenS rfl rfl iss9) rfl rfl rfl rfl ?_
    refine s_of (st_eqI rfl rfl rfl) rfl rfl rfl rfl ?_
    refine rt_nil ?_
    refine tri_cond rfl (fun c2 => ?_) (fun c2 => ?_)
    · replace h := cond_t h c2
      refine tri_seq ?_
      refine tri_region ?_
      refine s_mv (.inl rfl) (by conv => lhs; whnf) rfl rfl rfl ?_
      refine s_mv (.inl rfl) (by conv => lhs; whnf) rfl rfl rfl ?_
      refine bnd1_elim h fun x3 q4 h => ?_
      refine s_idxS rfl rfl rfl iss9 q4 rfl rfl rfl ?_
      refine s_countString rfl rfl rfl Tryd.func130 (by kernel_rfl) (by kernel_rfl) (by kernel_rfl) (by kernel_rfl) rfl rfl rfl ?_
      refine s_mv (.inr rfl) (by conv => lhs; whnf) rfl rfl rfl ?_
      refine rt_nil ?_
      refine tri_ret ?_
      have e0 := (some1 h); subst e0
      exact endY [] [] (rvC (resTmp rfl) rvN) trivial trivial rfl rfl rfl rfl (.free rfl)
    · replace h := cond_f h c2
      refine tri_skip ?_
      refine tri_seq ?_
      refine tri_region ?_
      refine s_mv (.inr rfl) (v := .sc (.int .i64 0)) rfl rfl rfl rfl ?_
      refine rt_nil ?_
      refine tri_block ?_
      refine tri_loop (ι := { p : Nat × ByteArray × Int // strings_Count_l0 p1 p.1 p.2.1 p.2.2 = some r0 }) (fun p => inv_strings_Count_0 p1 p.1.2.1 p.1.2.2) (fun p => p.1.1) ⟨(fuel0, p0, 0), h⟩ ?_ ?_
      · skip
        refine entX [] [] trivial trivial rfl rfl ?_
        exact ⟨(.free rfl), (.free rfl), (.free rfl), trivial⟩
      · rintro ⟨⟨f0, v0_0, v0_1⟩, h⟩
        replace h : strings_Count_l0 p1 f0 v0_0 v0_1 = some r0 := h
        cases f0 with
        | zero => cases h
        | succ f0 =>
        rw [strings_Count_l0] at h
        show Tri _ _ _ (inv_strings_Count_0 p1 v0_0 v0_1)
        refine tri_block ?_
        refine tri_seq ?_
        refine tri_region ?_
        refine s_mv (.inl rfl) (by conv => lhs; whnf) rfl rfl rfl ?_
        refine s_mv (.inl rfl) (by conv => lhs; whnf) rfl rfl rfl ?_
        refine bnd1_elim h fun x5 q6 h => ?_
        refine s_callN (kb := []) (ns := []) (v := .sc (.int .i64 x5)) rfl rfl cl127 (wstrings_Index v0_0 p1 x5 q6) rfl (.cons (.free rfl) (.cons (.free rfl) .nil)) trivial memNil .nil memNil rfl trivial memNil rfl rfl rfl rfl rfl rfl ?_
        refine s_mv (.inr rfl) (by conv => lhs; whnf) rfl rfl rfl ?_
        refine rt_nil ?_
        refine tri_seq ?_
        refine tri_seq ?_
        refine tri_region ?_
        refine s_mv (.inl rfl) (by conv => lhs; whnf) rfl rfl rfl ?_
        refine s_of (st_eqI rfl rfl rfl) rfl rfl rfl rfl ?_
        refine rt_nil ?_
        refine tri_cond rfl (fun c7 => ?_) (fun c7 => ?_)
        · replace h := cond_t h c7
          refine tri_seq ?_
          refine tri_region ?_
          refine s_mv (.inl rfl) (by conv => lhs; whnf) rfl rfl rfl ?_
          refine s_mv (.inr rfl) (by conv => lhs; whnf) rfl rfl rfl ?_
          refine rt_nil ?_
          refine tri_ret ?_
          have e0 := (some1 h); subst e0
          exact endY [] [] (rvC (resTmp rfl) rvN) trivial trivial rfl rfl rfl rfl (.free rfl)
        · replace h := cond_f h c7
          refine tri_skip ?_
          refine tri_seq ?_
          refine tri_region ?_
          refine s_mv (.inl rfl) (by conv => lhs; whnf) rfl rfl rfl ?_
          refine grd_elim h fun g8 h => ?_
          refine s_addI rfl rfl rfl rfl g8 rfl rfl rfl ?_
          refine s_mv (.inr rfl) (by conv => lhs; whnf) rfl rfl rfl ?_
          refine rt_nil ?_
          refine tri_region ?_
          refine s_mv (.inl rfl) (by conv => lhs; whnf) rfl rfl rfl ?_
          refine s_mv (.inl rfl) (by conv => lhs; whnf) rfl rfl rfl ?_
          refine s_mv (.inl rfl) (by conv => lhs; whnf) rfl rfl rfl ?_
          refine s_of (st_lenS rfl rfl iss9) rfl rfl rfl rfl ?_
          refine grd_elim h fun g9 h => ?_
          refine s_addI rfl rfl rfl rfl g9 rfl rfl rfl ?_
          refine grd_elim h fun g10 h => ?_
          refine s_sliceS (a := x5 + (p1.size : Int)) (b := (v0_0.size : Int)) rfl rfl iss9 ⟨_, rfl⟩ rfl g10 rfl rfl rfl ?_
          refine s_mv (.inr rfl) (by conv => lhs; whnf) rfl rfl rfl ?_
          refine rt_nil ?_
          refine Exists.intro ⟨(f0, v0_0.extract (x5 + (p1.size : Int)).toNat (v0_0.size : Int).toNat, v0_1 + 1), h⟩ (And.intro (Nat.lt_succ_self _) ?_)
          refine entX [] [] trivial trivial rfl rfl ?_
          exact ⟨(.free rfl), (.free rfl), (.free rfl), trivial⟩

/- strings.genSplit -/
def inv_strings_genSplit_2 (p0 : ByteArray) (p1 : ByteArray) (p2 : Int) (j0_0 : Int) (v2_0 : ByteArray) (v2_1 : List ByteArray) (v2_2 : Int) : St := mkT 66 [(0, .sc (.string v2_0)), (1, .sc (.string p1)), (2, .sc (.int .i64 p2)), (3, .sc (.int .i64 ((if (p0.size : Int) + 1 < j0_0 then (p0.size : Int) + 1 else j0_0) - 1))), (9, .ref (31, 0) 0 v2_1.length), (10, .sc (.int .i64 v2_2))] [((31, 0), some ⟨9, 1, List.map strV v2_1, false, true⟩)]
def inv_strings_genSplit_1  (j1_0 : ByteArray) (j1_1 : List ByteArray) (j1_2 : Int) : St := mkT 66 [(0, .sc (.string j1_0)), (9, .ref (31, 0) 0 j1_1.length), (10, .sc (.int .i64 j1_2))] [((31, 0), some ⟨9, 1, List.map strV j1_1, false, true⟩)]
def inv_strings_genSplit_0 (p0 : ByteArray) (p1 : ByteArray) (p2 : Int) (j0_0 : Int) : St := mkT 66 [(0, .sc (.string p0)), (1, .sc (.string p1)), (2, .sc (.int .i64 p2)), (3, .sc (.int .i64 j0_0))] []
set_option maxRecDepth 4000 in
set_option maxHeartbeats 800000 in
theorem wstrings_genSplit (p0 : ByteArray) (p1 : ByteArray) (p2 : Int) (p3 : Int) (r0 : List ByteArray) (h : strings_genSplit p0 p1 p2 p3 = some r0) : Runs Tryd.prog 124 [.sc (.string p0), .sc (.string p1), .sc (.int .i64 p2), .sc (.int .i64 p3)] [] (.own 9 1 (List.map strV r0)) [] := by
  unfold strings_genSplit at h
  refine runsR [.tmp 8] Tryd.func124 rfl rfl rfl rfl ?_
  rw [Tryd.ntmps124]
  refine tri_seq ?_
  refine tri_region ?_
  refine s_mv (.inr rfl) (v := .nils) rfl rfl rfl rfl ?_
  refine rt_nil ?_
  refine tri_seq ?_
  refine tri_seq ?_
  refine tri_region ?_
  refine s_mv (.inl rfl) (by conv => lhs; whnf) rfl rfl rfl ?_
  refine s_of (st_eqI rfl rfl rfl) rfl rfl rfl rfl ?_
  refine rt_nil ?_
  refine tri_cond rfl (fun c1 => ?_) (fun c1 => ?_)
  · replace h := cond_t h c1
    refine tri_seq ?_
    refine tri_region ?_
    refine s_mv (.inr rfl) (v := .nils) rfl rfl rfl rfl ?_
    refine rt_nil ?_
    refine tri_ret ?_
    have e0 := (some1 h); subst e0
    exact endY (v' := .ref (2000, 0) 0 (([] : List ByteArray).length)) [((2000, 0), ⟨9, 1, List.map strV ([] : List ByteArray), false, true⟩, none)] [] (rvC (resTmp rfl) rvN) ⟨rfl, trivial⟩ trivial rfl rfl (by kernel_rfl) (by first | (simp only [V.mat, V.mat1, V.mat0, matL, matT, List.length_map]; done) | (simp only [V.mat, V.mat1, V.mat0, matL, matT, List.length_map]; rfl)) (.nilRef rfl)
  · replace h := cond_f h c1
    refine tri_skip ?_
    refine tri_seq ?_
    refine tri_seq ?_
    refine tri_region ?_
    refine s_mv (.inl rfl) (by conv => lhs; whnf) rfl rfl rfl ?_
    refine s_of (st_eqS rfl rfl rfl) rfl rfl rfl rfl ?_
    refine rt_nil ?_
    refine tri_cond rfl (fun c2 => ?_) (fun c2 => ?_)
    · replace h := cond_t h c2
      refine tri_seq ?_
      refine tri_region ?_
      refine s_mv (.inl rfl) (by conv => lhs; whnf) rfl rfl rfl ?_
      refine s_mv (.inl rfl) (by conv => lhs; whnf) rfl rfl rfl ?_
      cases h
    · replace h := cond_f h c2
      refine tri_skip ?_
      refine tri_cutI (ι := { p : Int // strings_genSplit_j0 p0 p1 p2 p = some r0 }) (fun p => inv_strings_genSplit_0 p0 p1 p2 p.1) ?_ ?_
      · skip
        refine tri_seq ?_
        refine tri_region ?_
        refine s_mv (.inl rfl) (by conv => lhs; whnf) rfl rfl rfl ?_
        refine s_of (st_lss rfl rfl rfl) rfl rfl rfl rfl ?_
        refine rt_nil ?_
        refine tri_cond rfl (fun c3 => ?_) (fun c3 => ?_)
        · replace h := cond_t h c3
          refine tri_region ?_
          refine s_mv (.inl rfl) (by conv => lhs; whnf) rfl rfl rfl ?_
          refine s_mv (.inl rfl) (by conv => lhs; whnf) rfl rfl rfl ?_
          refine bnd1_elim h fun x4 q5 h => ?_
          refine s_callN (kb := []) (ns := []) (v := .sc (.int .i64 x4)) rfl rfl cl126 (wstrings_Count p0 p1 x4 q5) rfl (.cons (.free rfl) (.cons (.free rfl) .nil)) trivial memNil .nil memNil rfl trivial memNil rfl rfl rfl rfl rfl rfl ?_
          refine grd_elim h fun g6 h => ?_
          refine s_addI rfl rfl rfl rfl g6 rfl rfl rfl ?_
          refine s_mv (.inr rfl) (by conv => lhs; whnf) rfl rfl rfl ?_
          refine rt_nil ?_
          refine Exists.intro ⟨x4 + 1, h⟩ ?_
          refine entX [] [] trivial trivial rfl rfl ?_
          exact ⟨(.free rfl), (.free rfl), (.free rfl), (.free rfl), trivial⟩
        · replace h := cond_f h c3
          refine tri_skip ?_
          refine Exists.intro ⟨p3, h⟩ ?_
          refine entX [] [] trivial trivial rfl rfl ?_
          exact ⟨(.free rfl), (.free rfl), (.free rfl), (.free rfl), trivial⟩
      · rintro ⟨j0_0, h⟩
        replace h : strings_genSplit_j0 p0 p1 p2 j0_0 = some r0 := h
        unfold strings_genSplit_j0 at h
        show Tri _ _ _ (inv_strings_genSplit_0 p0 p1 p2 j0_0)
        refine tri_seq ?_
        refine tri_region ?_
        refine s_mv (.inl rfl) (by conv => lhs; whnf) rfl rfl rfl ?_
        refine s_mv (.inl rfl) (by conv => lhs; whnf) rfl rfl rfl ?_
        refine s_of (st_lenS rfl rfl iss9) rfl rfl rfl rfl ?_
        refine grd_elim h fun g3 h => ?_
        refine s_addI rfl rfl rfl rfl g3 rfl rfl rfl ?_
        refine s_of (st_minI rfl rfl rfl) rfl rfl rfl rfl ?_
        refine s_mv (.inr rfl) (by conv => lhs; whnf) rfl rfl rfl ?_
        refine rt_nil ?_
        refine tri_seq ?_
        refine tri_region ?_
        refine s_mv (.inl rfl) (by conv => lhs; whnf) rfl rfl rfl ?_
        refine grd_elim h fun g4 h => ?_
        refine s_makeL (f := strV) (a := (⟨#[]⟩ : ByteArray)) rfl rfl rfl rfl rfl sl108 zc9 rfl rfl rfl rfl g4.1 g4.2 (rowZ_cv rfl rowZ_nil) rfl rfl ?_
        refine s_mv (.inr rfl) (by conv => lhs; whnf) rfl rfl rfl ?_
        refine rt_nil ?_
        refine tri_seq ?_
        refine tri_region ?_
        refine s_mv (.inl rfl) (by conv => lhs; whnf) rfl rfl rfl ?_
        refine grd_elim h fun g5 h => ?_
        refine s_subI rfl rfl rfl rfl g5 rfl rfl rfl ?_
        refine s_mv (.inr rfl) (by conv => lhs; whnf) rfl rfl rfl ?_
        refine rt_nil ?_
        refine tri_seq ?_
        refine tri_region ?_
        refine s_mv (.inr rfl) (v := .sc (.int .i64 0)) rfl rfl rfl rfl ?_
        refine rt_nil ?_
        refine tri_cutI (ι := { p : ByteArray × (List ByteArray) × Int // strings_genSplit_j1 p.1 p.2.1 p.2.2 = some r0 }) (fun p => inv_strings_genSplit_1 p.1.1 p.1.2.1 p.1.2.2) ?_ ?_
        · skip
          refine tri_block ?_
          refine tri_loop (ι := { p : Nat × ByteArray × (List ByteArray) × Int // strings_genSplit_l2 p0 p1 p2 j0_0 p.1 p.2.1 p.2.2.1 p.2.2.2 = some r0 }) (fun p => inv_strings_genSplit_2 p0 p1 p2 j0_0 p.1.2.1 p.1.2.2.1 p.1.2.2.2) (fun p => p.1.1) ⟨(fuel0, p0, List.replicate (if (p0.size : Int) + 1 < j0_0 then (p0.size : Int) + 1 else j0_0).toNat (⟨#[]⟩ : ByteArray), 0), h⟩ ?_ ?_
          · skip
            refine entX [((31, 0), ⟨9, 1, List.map strV (List.replicate (if (p0.size : Int) + 1 < j0_0 then (p0.size : Int) + 1 else j0_0).toNat (⟨#[]⟩ : ByteArray)), false, true⟩, some (31, 0))] [] ⟨⟨rfl, _, rfl, rfl, rfl, rfl, id, rowsCv_eq rfl (allFree_map strV_free), rowsZ_map strV_len⟩, trivial⟩ trivial rfl rfl ?_
            exact ⟨(.free rfl), (.free rfl), (.free rfl), (.free rfl), (.ref rfl), (.free rfl), trivial⟩
          · rintro ⟨⟨f2, v2_0, v2_1, v2_2⟩, h⟩
            replace h : strings_genSplit_l2 p0 p1 p2 j0_0 f2 v2_0 v2_1 v2_2 = some r0 := h
            cases f2 with
            | zero => cases h
            | succ f2 =>
            rw [strings_genSplit_l2] at h
            show Tri _ _ _ (inv_strings_genSplit_2 p0 p1 p2 j0_0 v2_0 v2_1 v2_2)
            refine tri_seq ?_
            refine tri_seq ?_
            refine tri_region ?_
            refine s_mv (.inl rfl) (by conv => lhs; whnf) rfl rfl rfl ?_
            refine s_mv (.inl rfl) (by conv => lhs; whnf) rfl rfl rfl ?_
            refine s_of (st_lss rfl rfl rfl) rfl rfl rfl rfl ?_
            refine rt_nil ?_
            refine tri_cond rfl (fun c6 => ?_) (fun c6 => ?_)
            · replace h := cond_t h c6
              refine tri_skip ?_
              refine tri_block ?_
              refine tri_seq ?_
              refine tri_region ?_
              refine s_mv (.inl rfl) (by conv => lhs; whnf) rfl rfl rfl ?_
              refine s_mv (.inl rfl) (by conv => lhs; whnf) rfl rfl rfl ?_
              refine bnd1_elim h fun x7 q8 h => ?_
              refine s_callN (kb := []) (ns := []) (v := .sc (.int .i64 x7)) rfl rfl cl127 (wstrings_Index v2_0 p1 x7 q8) rfl (.cons (.free rfl) (.cons (.free rfl) .nil)) trivial memNil .nil memNil rfl trivial memNil rfl rfl rfl rfl rfl rfl ?_
              refine s_mv (.inr rfl) (by conv => lhs; whnf) rfl rfl rfl ?_
              refine rt_nil ?_
              refine tri_seq ?_
              refine tri_seq ?_
              refine tri_region ?_
              refine s_mv (.inl rfl) (by conv => lhs; whnf) rfl rfl rfl ?_
              refine s_of (st_lss rfl rfl rfl) rfl rfl rfl rfl ?_
              refine rt_nil ?_
              refine tri_cond rfl (fun c9 => ?_) (fun c9 => ?_)
              · replace h := cond_t h c9
                refine tri_exit ?_
                refine Exists.intro ⟨(v2_0, v2_1, v2_2), h⟩ ?_
                refine entX [((31, 0), ⟨9, 1, List.map strV v2_1, false, true⟩, some (31, 0))] [] ⟨⟨rfl, _, rfl, rfl, rfl, rfl, id, rowsCv_eq rfl (allFree_map strV_free), rowsZ_map strV_len⟩, trivial⟩ trivial rfl rfl ?_
                exact ⟨(.free rfl), (.ref rfl), (.free rfl), trivial⟩
              · replace h := cond_f h c9
                refine tri_skip ?_
                refine tri_seq ?_
                refine tri_region ?_
                refine s_mv (.inl rfl) (by conv => lhs; whnf) rfl rfl rfl ?_
                refine s_mv (.inl rfl) (by conv => lhs; whnf) rfl rfl rfl ?_
                refine s_mv (.inl rfl) (by conv => lhs; whnf) rfl rfl rfl ?_
                refine s_mv (.inl rfl) (by conv => lhs; whnf) rfl rfl rfl ?_
                refine s_mv (.inl rfl) (by conv => lhs; whnf) rfl rfl rfl ?_
                refine grd_elim h fun g10 h => ?_
                refine s_addI rfl rfl rfl rfl g10 rfl rfl rfl ?_
                refine grd_elim h fun g11 h => ?_
                refine s_sliceS (a := ((0 : Nat) : Int)) (b := x7 + p2) rfl rfl iss9 rfl ⟨_, rfl⟩ g11 rfl rfl rfl ?_
                refine bnd1_elim h fun x12 q13 h => ?_
                have q13a := (idx_some q13).1; have q13b := (idx_some q13).2
                refine s_indexZ rfl rfl rfl rfl sl108 rfl q13a (get_lt q13b) rfl rfl rfl ?_
                refine s_storeL (x' := v2_0.extract ((0 : Nat) : Int).toNat (x7 + p2).toNat) rfl rfl rfl q13b ty9 rfl rfl rfl rfl rfl rfl ?_
                refine rt_nil ?_
                refine tri_seq ?_
                refine tri_region ?_
                refine s_mv (.inl rfl) (by conv => lhs; whnf) rfl rfl rfl ?_
                refine s_mv (.inl rfl) (by conv => lhs; whnf) rfl rfl rfl ?_
                refine s_mv (.inl rfl) (by conv => lhs; whnf) rfl rfl rfl ?_
                refine s_of (st_lenS rfl rfl iss9) rfl rfl rfl rfl ?_
                refine grd_elim h fun g14 h => ?_
                refine s_addI rfl rfl rfl rfl g14 rfl rfl rfl ?_
                refine grd_elim h fun g15 h => ?_
                refine s_sliceS (a := x7 + (p1.size : Int)) (b := (v2_0.size : Int)) rfl rfl iss9 ⟨_, rfl⟩ rfl g15 rfl rfl rfl ?_
                refine s_mv (.inr rfl) (by conv => lhs; whnf) rfl rfl rfl ?_
                refine rt_nil ?_
                refine tri_region ?_
                refine s_mv (.inl rfl) (by conv => lhs; whnf) rfl rfl rfl ?_
                refine grd_elim h fun g16 h => ?_
                refine s_addI rfl rfl rfl rfl g16 rfl rfl rfl ?_
                refine s_mv (.inr rfl) (by conv => lhs; whnf) rfl rfl rfl ?_
                refine rt_nil ?_
                refine Exists.intro ⟨(f2, v2_0.extract (x7 + (p1.size : Int)).toNat (v2_0.size : Int).toNat, v2_1.set v2_2.toNat (v2_0.extract ((0 : Nat) : Int).toNat (x7 + p2).toNat), v2_2 + 1), h⟩ (And.intro (Nat.lt_succ_self _) ?_)
                refine entX [((31, 0), ⟨9, 1, List.map strV (v2_1.set v2_2.toNat (v2_0.extract ((0 : Nat) : Int).toNat (x7 + p2).toNat)), false, true⟩, some (31, 0))] [] ⟨⟨rfl, _, rfl, rfl, rfl, rfl, id, rowsCv_eq rfl (allFree_map strV_free), rowsZ_map strV_len⟩, trivial⟩ trivial rfl rfl ?_
                exact ⟨(.free rfl), (.free rfl), (.free rfl), (.free rfl), (cvRefLen rfl (by simp only [List.length_set])), (.free rfl), trivial⟩
            · replace h := cond_f h c6
              refine tri_exit ?_
              refine Exists.intro ⟨(v2_0, v2_1, v2_2), h⟩ ?_
              refine entX [((31, 0), ⟨9, 1, List.map strV v2_1, false, true⟩, some (31, 0))] [] ⟨⟨rfl, _, rfl, rfl, rfl, rfl, id, rowsCv_eq rfl (allFree_map strV_free), rowsZ_map strV_len⟩, trivial⟩ trivial rfl rfl ?_
              exact ⟨(.free rfl), (.ref rfl), (.free rfl), trivial⟩
        · rintro ⟨⟨j1_0, j1_1, j1_2⟩, h⟩
          replace h : strings_genSplit_j1 j1_0 j1_1 j1_2 = some r0 := h
          unfold strings_genSplit_j1 at h
          show Tri _ _ _ (inv_strings_genSplit_1 j1_0 j1_1 j1_2)
          refine tri_seq ?_
          refine tri_region ?_
          refine s_mv (.inl rfl) (by conv => lhs; whnf) rfl rfl rfl ?_
          refine s_mv (.inl rfl) (by conv => lhs; whnf) rfl rfl rfl ?_
          refine s_mv (.inl rfl) (by conv => lhs; whnf) rfl rfl rfl ?_
          refine bnd1_elim h fun x6 q7 h => ?_
          have q7a := (idx_some q7).1; have q7b := (idx_some q7).2
          refine s_indexZ rfl rfl rfl rfl sl108 rfl q7a (get_lt q7b) rfl rfl rfl ?_
          refine s_storeL (x' := j1_0) rfl rfl rfl q7b ty9 rfl rfl rfl rfl rfl rfl ?_
          refine rt_nil ?_
          refine tri_seq ?_
          refine tri_region ?_
          refine s_mv (.inl rfl) (by conv => lhs; whnf) rfl rfl rfl ?_
          refine s_mv (.inl rfl) (by conv => lhs; whnf) rfl rfl rfl ?_
          refine grd_elim h fun g8 h => ?_
          refine s_addI rfl rfl rfl rfl g8 rfl rfl rfl ?_
          refine grd_elim h fun g9 h => ?_
          refine s_sliceZ (a := ((0 : Nat) : Int)) (b := j1_2 + 1) rfl rfl rfl sl108 rfl rfl ⟨_, rfl⟩ g9 rfl rfl rfl ?_
          refine s_mv (.inr rfl) (by conv => lhs; whnf) rfl rfl rfl ?_
          refine rt_nil ?_
          refine tri_ret ?_
          have e0 := (some1 h); subst e0
          exact endY (v' := .ref (2000, 0) 0 ((((j1_1.set j1_2.toNat j1_0).drop (0 + ((0 : Nat) : Int).toNat)).take ((j1_2 + 1).toNat - ((0 : Nat) : Int).toNat)).length)) [((2000, 0), ⟨9, 1, List.map strV (((j1_1.set j1_2.toNat j1_0).drop (0 + ((0 : Nat) : Int).toNat)).take ((j1_2 + 1).toNat - ((0 : Nat) : Int).toNat)), false, true⟩, some (31, 0))] [] (rvC (resTmp rfl) rvN) ⟨⟨rfl, _, rfl, rfl, rfl, rfl, id, rowsCv_pre rfl strV_free, rowsZ_map strV_len⟩, trivial⟩ trivial rfl rfl (by kernel_rfl) (by first | (simp only [V.mat, V.mat1, V.mat0, matL, matT, List.length_map]; done) | (simp only [V.mat, V.mat1, V.mat0, matL, matT, List.length_map]; rfl)) (cvRefPre rfl rfl (by simp only [List.length_take, List.length_drop, List.length_set]; omega))

/- strings.Split -/

set_option maxRecDepth 4000 in
set_option maxHeartbeats 800000 in
theorem wstrings_Split (p0 : ByteArray) (p1 : ByteArray) (r0 : List ByteArray) (h : strings_Split p0 p1 = some r0) : Runs Tryd.prog 120 [.sc (.string p0), .sc (.string p1)] [] (.own 9 1 (List.map strV r0)) [] := by
  unfold strings_Split at h
  refine runsR [.tmp 4] Tryd.func120 rfl rfl rfl rfl ?_
  rw [Tryd.ntmps120]
  refine tri_seq ?_
  refine tri_region ?_
  refine s_mv (.inr rfl) (v := .nils) rfl rfl rfl rfl ?_
  refine rt_nil ?_
  refine tri_seq ?_
  refine tri_region ?_
  refine s_mv (.inl rfl) (by conv => lhs; whnf) rfl rfl rfl ?_
  refine s_mv (.inl rfl) (by conv => lhs; whnf) rfl rfl rfl ?_
  refine bnd1_elim h fun x1 q2 h => ?_
  refine s_callN (kb := []) (ns := []) (v := .ref (7, 0) 0 x1.length) rfl rfl cl124 (wstrings_genSplit p0 p1 0 (-1) x1 q2) rfl (.cons (.free rfl) (.cons (.free rfl) (.cons (.free rfl) (.cons (.free rfl) .nil)))) trivial memNil .nil memNil rfl ⟨(allSc_map strV_sc), trivial⟩ memNil rfl (by first | (simp only [V.mat, V.mat1, V.mat0, matL, matT, List.length_map]; done) | (simp only [V.mat, V.mat1, V.mat0, matL, matT, List.length_map]; rfl)) rfl rfl rfl rfl ?_
  refine s_mv (.inr rfl) (by conv => lhs; whnf) rfl rfl rfl ?_
  refine rt_nil ?_
  refine tri_ret ?_
  have e0 := (some1 h); subst e0
  exact endY (v' := .ref (2000, 0) 0 x1.length) [((2000, 0), ⟨9, 1, List.map strV x1, false, true⟩, some (7, 0))] [] (rvC (resTmp rfl) rvN) ⟨⟨rfl, _, rfl, rfl, rfl, rfl, id, rowsCv_eq rfl (allFree_map strV_free), rowsZ_map strV_len⟩, trivial⟩ trivial rfl rfl (by kernel_rfl) (by first | (simp only [V.mat, V.mat1, V.mat0, matL, matT, List.length_map]; done) | (simp only [V.mat, V.mat1, V.mat0, matL, matT, List.length_map]; rfl)) (.ref rfl)

/- impl.Labels -/

set_option maxRecDepth 4000 in
set_option maxHeartbeats 800000 in
theorem wi_Labels (p0 : ByteArray) (r0 : List ByteArray) (h : i_Labels p0 = some r0) : Runs Tryd.prog 95 [.sc (.string p0)] [] (.own 9 1 (List.map strV r0)) [] := by
  unfold i_Labels at h
  refine runsR [.tmp 2] Tryd.func95 rfl rfl rfl rfl ?_
  rw [Tryd.ntmps95]
  refine tri_seq ?_
  refine tri_region ?_
  refine s_mv (.inr rfl) (v := .nils) rfl rfl rfl rfl ?_
  refine rt_nil ?_
  refine tri_seq ?_
  refine tri_seq ?_
  refine tri_region ?_
  refine s_mv (.inl rfl) (by conv => lhs; whnf) rfl rfl rfl ?_
  refine s_of (st_eqS rfl rfl rfl) rfl rfl rfl rfl ?_
  refine rt_nil ?_
  refine tri_cond rfl (fun c1 => ?_) (fun c1 => ?_)
  · replace h := cond_t h c1
    refine tri_seq ?_
    refine tri_region ?_
    refine s_mv (.inr rfl) (v := .nils) rfl rfl rfl rfl ?_
    refine rt_nil ?_
    refine tri_ret ?_
    have e0 := (some1 h); subst e0
    exact endY (v' := .ref (2000, 0) 0 (([] : List ByteArray).length)) [((2000, 0), ⟨9, 1, List.map strV ([] : List ByteArray), false, true⟩, none)] [] (rvC (resTmp rfl) rvN) ⟨rfl, trivial⟩ trivial rfl rfl (by kernel_rfl) (by first | (simp only [V.mat, V.mat1, V.mat0, matL, matT, List.length_map]; done) | (simp only [V.mat, V.mat1, V.mat0, matL, matT, List.length_map]; rfl)) (.nilRef rfl)
  · replace h := cond_f h c1
    refine tri_skip ?_
    refine tri_seq ?_
    refine tri_region ?_
    refine s_mv (.inl rfl) (by conv => lhs; whnf) rfl rfl rfl ?_
    refine bnd1_elim h fun x2 q3 h => ?_
    refine s_callN (kb := []) (ns := []) (v := .ref (6, 0) 0 x2.length) rfl rfl cl120 (wstrings_Split p0 (⟨#[46]⟩ : ByteArray) x2 q3) rfl (.cons (.free rfl) (.cons (.free rfl) .nil)) trivial memNil .nil memNil rfl ⟨(allSc_map strV_sc), trivial⟩ memNil rfl (by first | (simp only [V.mat, V.mat1, V.mat0, matL, matT, List.length_map]; done) | (simp only [V.mat, V.mat1, V.mat0, matL, matT, List.length_map]; rfl)) rfl rfl rfl rfl ?_
    refine s_mv (.inr rfl) (by conv => lhs; whnf) rfl rfl rfl ?_
    refine rt_nil ?_
    refine tri_ret ?_
    have e0 := (some1 h); subst e0
    exact endY (v' := .ref (2000, 0) 0 x2.length) [((2000, 0), ⟨9, 1, List.map strV x2, false, true⟩, some (6, 0))] [] (rvC (resTmp rfl) rvN) ⟨⟨rfl, _, rfl, rfl, rfl, rfl, id, rowsCv_eq rfl (allFree_map strV_free), rowsZ_map strV_len⟩, trivial⟩ trivial rfl rfl (by kernel_rfl) (by first | (simp only [V.mat, V.mat1, V.mat0, matL, matT, List.length_map]; done) | (simp only [V.mat, V.mat1, V.mat0, matL, matT, List.length_map]; rfl)) (.ref rfl)

/- slices.IndexFunc[[]string,string] -/
def inv_slices_IndexFunc_string_0 (p0 : List ByteArray) (fi1 : FuncId) (cp1 : List V) (v0_0 : Nat) : St := mkT 19 [(0, .lst 1 (List.map strV p0)), (1, .fn fi1 cp1), (7, .sc (.int .i64 (p0.length : Int))), (8, .sc (.int .i64 (v0_0 : Int)))] []
set_option maxRecDepth 4000 in
set_option maxHeartbeats 800000 in
theorem wslices_IndexFunc_string (p0 : List ByteArray) (fi1 : FuncId) (cp1 : List V) (hf1 : cp1.all (·.free) = true) (hb1 : callable Tryd.prog fi1 = true) (p1 : ByteArray → Option Bool) (hg1 : ∀ (z0 : ByteArray) v, p1 z0 = some v → Runs Tryd.prog fi1 ([.sc (.string z0)] ++ cp1) [] (.sc (.bool v)) []) (r0 : Int) (h : slices_IndexFunc_string p0 p1 = some r0) : Runs Tryd.prog 121 [.lst 1 (List.map strV p0), .fn fi1 cp1] [] (.sc (.int .i64 r0)) [] := by
  unfold slices_IndexFunc_string at h
  refine runsR [.tmp 4] Tryd.func121 rfl rfl rfl rfl ?_
  rw [Tryd.ntmps121]
  refine tri_seq ?_
  refine tri_region ?_
  refine s_mv (.inr rfl) (v := .sc (.int .i64 0)) rfl rfl rfl rfl ?_
  refine rt_nil ?_
  refine tri_seq ?_
  refine tri_seq ?_
  refine tri_region ?_
  refine s_mv (.inl rfl) (by conv => lhs; whnf) rfl rfl rfl ?_
  refine s_lenL rfl sl108 rfl rfl rfl rfl ?_
  refine s_mv (.inl rfl) (v := .sc (.int .i64 0)) rfl rfl rfl rfl ?_
  refine rt_nil ?_
  refine tri_block ?_
  refine tri_lstM 0 rfl (fun hl0 => ?_)
  refine tri_loop (ι := { p : (List ByteArray) × Nat // p0.drop p.2 = p.1 ∧ slices_IndexFunc_string_l0 p1 p.1 p.2 = some r0 }) (fun p => inv_slices_IndexFunc_string_0 p0 fi1 cp1 p.1.2) (fun p => p.1.1.length) ⟨(p0, 0), rfl, h⟩ ?_ ?_
  · skip
    refine entX [] [] trivial trivial rfl rfl ?_
    exact ⟨(.free rfl), (cvFn hf1), (.free rfl), (.free rfl), trivial⟩
  · rintro ⟨⟨lrs0, v0_0⟩, hd0, h⟩
    replace hd0 : p0.drop v0_0 = lrs0 := hd0
    replace h : slices_IndexFunc_string_l0 p1 lrs0 v0_0 = some r0 := h
    show Tri _ _ _ (inv_slices_IndexFunc_string_0 p0 fi1 cp1 v0_0)
    refine tri_seq ?_
    refine tri_region ?_
    refine s_of (st_lss rfl rfl rfl) rfl rfl rfl rfl ?_
    refine rt_nil ?_
    refine tri_seq ?_
    refine tri_cond rfl (fun c1 => ?_) (fun c1 => ?_)
    · refine drop_elim hd0 c1 fun e0 rs0 he hx0 hn0 => ?_
      subst he
      rw [slices_IndexFunc_string_l0] at h
      refine tri_skip ?_
      refine tri_seq ?_
      refine tri_block ?_
      refine tri_seq ?_
      refine tri_region ?_
      refine s_mv (.inl rfl) (by conv => lhs; whnf) rfl rfl rfl ?_
      refine s_mv (.inr rfl) (by conv => lhs; whnf) rfl rfl rfl ?_
      refine rt_nil ?_
      refine tri_seq ?_
      refine tri_region ?_
      refine s_mv (.inl rfl) (by conv => lhs; whnf) rfl rfl rfl ?_
      refine s_mv (.inl rfl) (by conv => lhs; whnf) rfl rfl rfl ?_
      refine s_mv (.inl rfl) (by conv => lhs; whnf) rfl rfl rfl ?_
      refine s_indexF (i := v0_0) rfl rfl rfl sl108 (get_ltM hx0) rfl rfl rfl ?_
      refine s_loadF rfl rfl (rowG hx0) ty9 rfl (.inr rfl) (by conv => lhs; whnf) rfl rfl rfl ?_
      refine bnd1_elim h fun x2 q3 h => ?_
      refine s_callN (kb := []) (ns := []) (v := .sc (.bool x2)) rfl rfl hb1 (hg1 e0 x2 q3) rfl (.cons (.free rfl) (argsFree hf1)) trivial memNil .nil memNil rfl trivial memNil rfl rfl rfl rfl rfl rfl ?_
      refine rt_nil ?_
      refine tri_cond rfl (fun c4 => ?_) (fun c4 => ?_)
      · replace h := cond_t h c4
        refine tri_seq ?_
        refine tri_region ?_
        refine s_mv (.inl rfl) (by conv => lhs; whnf) rfl rfl rfl ?_
        refine s_mv (.inr rfl) (by conv => lhs; whnf) rfl rfl rfl ?_
        refine rt_nil ?_
        refine tri_ret ?_
        have e0 := (some1 h); subst e0
        exact endY [] [] (rvC (resTmp rfl) rvN) trivial trivial rfl rfl rfl rfl (.free rfl)
      · replace h := cond_f h c4
        refine tri_skip ?_
        refine tri_region ?_
        refine s_inc (a := v0_0) (b := 1) rfl rfl rfl rfl (by have := get_lt hx0; have := hl0; omega) rfl rfl rfl ?_
        refine s_mv (.inl rfl) (by conv => lhs; whnf) rfl rfl rfl ?_
        refine rt_nil ?_
        refine Exists.intro ⟨(rs0, (v0_0 + 1)), hn0, h⟩ (And.intro (Nat.lt_succ_self _) ?_)
        refine entX [] [] trivial trivial rfl rfl ?_
        exact ⟨(.free rfl), (cvFn hf1), (.free rfl), (.free rfl), trivial⟩
    · have he := drop_f hd0 c1; subst he
      rw [slices_IndexFunc_string_l0] at h
      refine tri_exit ?_
      refine tri_seq ?_
      refine tri_region ?_
      refine s_mv (.inr rfl) (v := .sc (.int .i64 (-1))) rfl rfl rfl rfl ?_
      refine rt_nil ?_
      refine tri_ret ?_
      have e0 := (some1 h); subst e0
      exact endY [] [] (rvC (resTmp rfl) rvN) trivial trivial rfl rfl rfl rfl (.free rfl)

/- slices.ContainsFunc[[]string,string] -/

set_option maxRecDepth 4000 in
set_option maxHeartbeats 800000 in
theorem wslices_ContainsFunc_string (p0 : List ByteArray) (fi1 : FuncId) (cp1 : List V) (hf1 : cp1.all (·.free) = true) (hb1 : callable Tryd.prog fi1 = true) (p1 : ByteArray → Option Bool) (hg1 : ∀ (z0 : ByteArray) v, p1 z0 = some v → Runs Tryd.prog fi1 ([.sc (.string z0)] ++ cp1) [] (.sc (.bool v)) []) (r0 : Bool) (h : slices_ContainsFunc_string p0 p1 = some r0) : Runs Tryd.prog 96 [.lst 1 (List.map strV p0), .fn fi1 cp1] [] (.sc (.bool r0)) [] := by
  unfold slices_ContainsFunc_string at h
  refine runsR [.tmp 4] Tryd.func96 rfl rfl rfl rfl ?_
  rw [Tryd.ntmps96]
  refine tri_seq ?_
  refine tri_region ?_
  refine s_mv (.inr rfl) (v := .sc (.bool false)) rfl rfl rfl rfl ?_
  refine rt_nil ?_
  refine tri_seq ?_
  refine tri_region ?_
  refine s_mv (.inl rfl) (by conv => lhs; whnf) rfl rfl rfl ?_
  refine s_mv (.inl rfl) (by conv => lhs; whnf) rfl rfl rfl ?_
  refine bnd1_elim h fun x1 q2 h => ?_
  refine s_callN (kb := []) (ns := []) (v := .sc (.int .i64 x1)) rfl rfl cl121 (wslices_IndexFunc_string p0 fi1 cp1 hf1 hb1 p1 hg1 x1 q2) rfl (.cons (.free rfl) (.cons (relFn hf1) .nil)) trivial memNil .nil memNil rfl trivial memNil rfl rfl rfl rfl rfl rfl ?_
  refine s_of (st_geq rfl rfl rfl) rfl rfl rfl rfl ?_
  refine s_mv (.inr rfl) (by conv => lhs; whnf) rfl rfl rfl ?_
  refine rt_nil ?_
  refine tri_ret ?_
  have e0 := (some1 h); subst e0
  exact endY [] [] (rvC (resTmp rfl) rvN) trivial trivial rfl rfl rfl rfl (.free rfl)

/- impl.LabelOk -/
def inv_i_LabelOk_2 (p0 : ByteArray) (v1_0 : Int) (j2_0 : Bool) : St := mkT 44 [(0, .sc (.string p0)), (6, .sc (.int .i64 (p0.size : Int))), (7, .sc (.int .i64 v1_0)), (34, .sc (.bool j2_0))] []
def inv_i_LabelOk_1 (p0 : ByteArray) (v1_0 : Int) : St := mkT 44 [(0, .sc (.string p0)), (6, .sc (.int .i64 (p0.size : Int))), (7, .sc (.int .i64 v1_0))] []
def inv_i_LabelOk_0 (p0 : ByteArray) : St := mkT 44 [(0, .sc (.string p0))] []
set_option maxRecDepth 4000 in
set_option maxHeartbeats 800000 in
theorem wi_LabelOk (p0 : ByteArray) (r0 : Bool) (h : i_LabelOk p0 = some r0) : Runs Tryd.prog 98 [.sc (.string p0)] [] (.sc (.bool r0)) [] := by
  unfold i_LabelOk at h
  refine runsR [.tmp 2] Tryd.func98 rfl rfl rfl rfl ?_
  rw [Tryd.ntmps98]
  refine tri_seq ?_
  refine tri_region ?_
  refine s_mv (.inr rfl) (v := .sc (.bool false)) rfl rfl rfl rfl ?_
  refine rt_nil ?_
  refine tri_cutI (ι := { p : Unit // i_LabelOk_j0 p0 = some r0 }) (fun p => inv_i_LabelOk_0 p0) ?_ ?_
  · skip
    refine tri_seq ?_
    refine tri_region ?_
    refine s_mv (.inl rfl) (by conv => lhs; whnf) rfl rfl rfl ?_
    refine s_of (st_lenS rfl rfl iss9) rfl rfl rfl rfl ?_
    refine s_mv (.inl rfl) (v := .sc (.int .i64 0)) rfl rfl rfl rfl ?_
    refine rt_nil ?_
    refine tri_block ?_
    refine tri_loop (ι := { p : Nat × Int // i_LabelOk_l1 p0 p.1 p.2 = some r0 }) (fun p => inv_i_LabelOk_1 p0 p.1.2) (fun p => p.1.1) ⟨(fuel0, 0), h⟩ ?_ ?_
    · skip
      refine entX [] [] trivial trivial rfl rfl ?_
      exact ⟨(.free rfl), (.free rfl), (.free rfl), trivial⟩
    · rintro ⟨⟨f1, v1_0⟩, h⟩
      replace h : i_LabelOk_l1 p0 f1 v1_0 = some r0 := h
      cases f1 with
      | zero => cases h
      | succ f1 =>
      rw [i_LabelOk_l1] at h
      show Tri _ _ _ (inv_i_LabelOk_1 p0 v1_0)
      refine tri_seq ?_
      refine tri_region ?_
      refine s_of (st_lss rfl rfl rfl) rfl rfl rfl rfl ?_
      refine rt_nil ?_
      refine tri_seq ?_
      refine tri_cond rfl (fun c1 => ?_) (fun c1 => ?_)
      · replace h := cond_t h c1
        refine tri_skip ?_
        refine tri_seq ?_
        refine tri_block ?_
        refine tri_seq ?_
        refine tri_region ?_
        refine s_mv (.inl rfl) (by conv => lhs; whnf) rfl rfl rfl ?_
        refine s_mv (.inr rfl) (by conv => lhs; whnf) rfl rfl rfl ?_
        refine rt_nil ?_
        refine tri_seq ?_
        refine tri_region ?_
        refine s_mv (.inl rfl) (by conv => lhs; whnf) rfl rfl rfl ?_
        refine s_mv (.inl rfl) (by conv => lhs; whnf) rfl rfl rfl ?_
        refine bnd1_elim h fun x2 q3 h => ?_
        refine s_idxS rfl rfl rfl iss9 q3 rfl rfl rfl ?_
        refine s_mv (.inr rfl) (by conv => lhs; whnf) rfl rfl rfl ?_
        refine rt_nil ?_
        refine tri_cutI (ι := { p : Bool // i_LabelOk_j2 v1_0 (i_LabelOk_l1 p0 f1) p = some r0 }) (fun p => inv_i_LabelOk_2 p0 v1_0 p.1) ?_ ?_
        · skip
          refine tri_region ?_
          refine s_mv (.inl rfl) (by conv => lhs; whnf) rfl rfl rfl ?_
          refine s_of (st_lss rfl rfl rfl) rfl rfl rfl rfl ?_
          refine s_mv (.inl rfl) (by conv => lhs; whnf) rfl rfl rfl ?_
          refine s_split (t := 15) rfl (fun b4 => ?_) (fun b4 => ?_)
          · replace h := cond_t h b4
            refine s_skip rfl rfl rfl ?_
            refine s_skip rfl rfl rfl ?_
            refine s_pickT rfl rfl (v := .sc (.bool true)) rfl rfl rfl rfl ?_
            refine s_mv (.inl rfl) (by conv => lhs; whnf) rfl rfl rfl ?_
            refine s_mv (.inl rfl) (by conv => lhs; whnf) rfl rfl rfl ?_
            refine s_of (st_lss rfl rfl rfl) rfl rfl rfl rfl ?_
            refine s_mv (.inl rfl) (by conv => lhs; whnf) rfl rfl rfl ?_
            refine s_split (t := 22) rfl (fun b5 => ?_) (fun b5 => ?_)
            · replace h := cond_t h b5
              refine s_skip rfl rfl rfl ?_
              refine s_skip rfl rfl rfl ?_
              refine s_pickT rfl rfl (v := .sc (.bool true)) rfl rfl rfl rfl ?_
              refine s_pickT rfl rfl (by conv => lhs; whnf) rfl rfl rfl ?_
              refine s_mv (.inl rfl) (by conv => lhs; whnf) rfl rfl rfl ?_
              refine s_mv (.inl rfl) (by conv => lhs; whnf) rfl rfl rfl ?_
              refine s_of (st_neI rfl rfl rfl) rfl rfl rfl rfl ?_
              refine s_pickT rfl rfl (by conv => lhs; whnf) rfl rfl rfl ?_
              refine s_mv (.inl rfl) (by conv => lhs; whnf) rfl rfl rfl ?_
              refine s_split (t := 31) rfl (fun b6 => ?_) (fun b6 => ?_)
              · replace h := cond_t h b6
                refine s_mv (.inl rfl) (by conv => lhs; whnf) rfl rfl rfl ?_
                refine s_of (st_neI rfl rfl rfl) rfl rfl rfl rfl ?_
                refine s_pickT rfl rfl (by conv => lhs; whnf) rfl rfl rfl ?_
                refine rt_nil ?_
                refine Exists.intro ⟨!decide (x2 = 95), h⟩ ?_
                refine entX [] [] trivial trivial rfl rfl ?_
                exact ⟨(.free rfl), (.free rfl), (.free rfl), (.free rfl), trivial⟩
              · replace h := cond_f h b6
                refine s_skip rfl rfl rfl ?_
                refine s_skip rfl rfl rfl ?_
                refine s_pickF rfl rfl (v := .sc (.bool false)) rfl rfl rfl rfl ?_
                refine rt_nil ?_
                refine Exists.intro ⟨false, h⟩ ?_
                refine entX [] [] trivial trivial rfl rfl ?_
                exact ⟨(.free rfl), (.free rfl), (.free rfl), (.free rfl), trivial⟩
            · replace h := cond_f h b5
              refine s_mv (.inl rfl) (by conv => lhs; whnf) rfl rfl rfl ?_
              refine s_of (st_gtr rfl rfl rfl) rfl rfl rfl rfl ?_
              refine s_pickF rfl rfl (by conv => lhs; whnf) rfl rfl rfl ?_
              refine s_pickT rfl rfl (by conv => lhs; whnf) rfl rfl rfl ?_
              refine s_mv (.inl rfl) (by conv => lhs; whnf) rfl rfl rfl ?_
              refine s_split (t := 27) rfl (fun b7 => ?_) (fun b7 => ?_)
              · replace h := cond_t h b7
                refine s_mv (.inl rfl) (by conv => lhs; whnf) rfl rfl rfl ?_
                refine s_of (st_neI rfl rfl rfl) rfl rfl rfl rfl ?_
                refine s_pickT rfl rfl (by conv => lhs; whnf) rfl rfl rfl ?_
                refine s_mv (.inl rfl) (by conv => lhs; whnf) rfl rfl rfl ?_
                refine s_split (t := 31) rfl (fun b8 => ?_) (fun b8 => ?_)
                · replace h := cond_t h b8
                  refine s_mv (.inl rfl) (by conv => lhs; whnf) rfl rfl rfl ?_
                  refine s_of (st_neI rfl rfl rfl) rfl rfl rfl rfl ?_
                  refine s_pickT rfl rfl (by conv => lhs; whnf) rfl rfl rfl ?_
                  refine rt_nil ?_
                  refine Exists.intro ⟨!decide (x2 = 95), h⟩ ?_
                  refine entX [] [] trivial trivial rfl rfl ?_
                  exact ⟨(.free rfl), (.free rfl), (.free rfl), (.free rfl), trivial⟩
                · replace h := cond_f h b8
                  refine s_skip rfl rfl rfl ?_
                  refine s_skip rfl rfl rfl ?_
                  refine s_pickF rfl rfl (v := .sc (.bool false)) rfl rfl rfl rfl ?_
                  refine rt_nil ?_
                  refine Exists.intro ⟨false, h⟩ ?_
                  refine entX [] [] trivial trivial rfl rfl ?_
                  exact ⟨(.free rfl), (.free rfl), (.free rfl), (.free rfl), trivial⟩
              · replace h := cond_f h b7
                refine s_skip rfl rfl rfl ?_
                refine s_skip rfl rfl rfl ?_
                refine s_pickF rfl rfl (v := .sc (.bool false)) rfl rfl rfl rfl ?_
                refine s_mv (.inl rfl) (by conv => lhs; whnf) rfl rfl rfl ?_
                refine s_skip rfl rfl rfl ?_
                refine s_skip rfl rfl rfl ?_
                refine s_pickF rfl rfl (v := .sc (.bool false)) rfl rfl rfl rfl ?_
                refine rt_nil ?_
                refine Exists.intro ⟨false, h⟩ ?_
                refine entX [] [] trivial trivial rfl rfl ?_
                exact ⟨(.free rfl), (.free rfl), (.free rfl), (.free rfl), trivial⟩
          · replace h := cond_f h b4
            refine s_mv (.inl rfl) (by conv => lhs; whnf) rfl rfl rfl ?_
            refine s_of (st_gtr rfl rfl rfl) rfl rfl rfl rfl ?_
            refine s_pickF rfl rfl (by conv => lhs; whnf) rfl rfl rfl ?_
            refine s_mv (.inl rfl) (by conv => lhs; whnf) rfl rfl rfl ?_
            refine s_split (t := 19) rfl (fun b9 => ?_) (fun b9 => ?_)
            · replace h := cond_t h b9
              refine s_mv (.inl rfl) (by conv => lhs; whnf) rfl rfl rfl ?_
              refine s_of (st_lss rfl rfl rfl) rfl rfl rfl rfl ?_
              refine s_mv (.inl rfl) (by conv => lhs; whnf) rfl rfl rfl ?_
              refine s_split (t := 22) rfl (fun b10 => ?_) (fun b10 => ?_)
              · replace h := cond_t h b10
                refine s_skip rfl rfl rfl ?_
                refine s_skip rfl rfl rfl ?_
                refine s_pickT rfl rfl (v := .sc (.bool true)) rfl rfl rfl rfl ?_
                refine s_pickT rfl rfl (by conv => lhs; whnf) rfl rfl rfl ?_
                refine s_mv (.inl rfl) (by conv => lhs; whnf) rfl rfl rfl ?_
                refine s_mv (.inl rfl) (by conv => lhs; whnf) rfl rfl rfl ?_
                refine s_of (st_neI rfl rfl rfl) rfl rfl rfl rfl ?_
                refine s_pickT rfl rfl (by conv => lhs; whnf) rfl rfl rfl ?_
                refine s_mv (.inl rfl) (by conv => lhs; whnf) rfl rfl rfl ?_
                refine s_split (t := 31) rfl (fun b11 => ?_) (fun b11 => ?_)
                · replace h := cond_t h b11
                  refine s_mv (.inl rfl) (by conv => lhs; whnf) rfl rfl rfl ?_
                  refine s_of (st_neI rfl rfl rfl) rfl rfl rfl rfl ?_
                  refine s_pickT rfl rfl (by conv => lhs; whnf) rfl rfl rfl ?_
                  refine rt_nil ?_
                  refine Exists.intro ⟨!decide (x2 = 95), h⟩ ?_
                  refine entX [] [] trivial trivial rfl rfl ?_
                  exact ⟨(.free rfl), (.free rfl), (.free rfl), (.free rfl), trivial⟩
                · replace h := cond_f h b11
                  refine s_skip rfl rfl rfl ?_
                  refine s_skip rfl rfl rfl ?_
                  refine s_pickF rfl rfl (v := .sc (.bool false)) rfl rfl rfl rfl ?_
                  refine rt_nil ?_
                  refine Exists.intro ⟨false, h⟩ ?_
                  refine entX [] [] trivial trivial rfl rfl ?_
                  exact ⟨(.free rfl), (.free rfl), (.free rfl), (.free rfl), trivial⟩
              · replace h := cond_f h b10
                refine s_mv (.inl rfl) (by conv => lhs; whnf) rfl rfl rfl ?_
                refine s_of (st_gtr rfl rfl rfl) rfl rfl rfl rfl ?_
                refine s_pickF rfl rfl (by conv => lhs; whnf) rfl rfl rfl ?_
                refine s_pickT rfl rfl (by conv => lhs; whnf) rfl rfl rfl ?_
                refine s_mv (.inl rfl) (by conv => lhs; whnf) rfl rfl rfl ?_
                refine s_split (t := 27) rfl (fun b12 => ?_) (fun b12 => ?_)
                · replace h := cond_t h b12
                  refine s_mv (.inl rfl) (by conv => lhs; whnf) rfl rfl rfl ?_
                  refine s_of (st_neI rfl rfl rfl) rfl rfl rfl rfl ?_
                  refine s_pickT rfl rfl (by conv => lhs; whnf) rfl rfl rfl ?_
                  refine s_mv (.inl rfl) (by conv => lhs; whnf) rfl rfl rfl ?_
                  refine s_split (t := 31) rfl (fun b13 => ?_) (fun b13 => ?_)
                  · replace h := cond_t h b13
                    refine s_mv (.inl rfl) (by conv => lhs; whnf) rfl rfl rfl ?_
                    refine s_of (st_neI rfl rfl rfl) rfl rfl rfl rfl ?_
                    refine s_pickT rfl rfl (by conv => lhs; whnf) rfl rfl rfl ?_
                    refine rt_nil ?_
                    refine Exists.intro ⟨!decide (x2 = 95), h⟩ ?_
                    refine entX [] [] trivial trivial rfl rfl ?_
                    exact ⟨(.free rfl), (.free rfl), (.free rfl), (.free rfl), trivial⟩
                  · replace h := cond_f h b13
                    refine s_skip rfl rfl rfl ?_
                    refine s_skip rfl rfl rfl ?_
                    refine s_pickF rfl rfl (v := .sc (.bool false)) rfl rfl rfl rfl ?_
                    refine rt_nil ?_
                    refine Exists.intro ⟨false, h⟩ ?_
                    refine entX [] [] trivial trivial rfl rfl ?_
                    exact ⟨(.free rfl), (.free rfl), (.free rfl), (.free rfl), trivial⟩
                · replace h := cond_f h b12
                  refine s_skip rfl rfl rfl ?_
                  refine s_skip rfl rfl rfl ?_
                  refine s_pickF rfl rfl (v := .sc (.bool false)) rfl rfl rfl rfl ?_
                  refine s_mv (.inl rfl) (by conv => lhs; whnf) rfl rfl rfl ?_
                  refine s_skip rfl rfl rfl ?_
                  refine s_skip rfl rfl rfl ?_
                  refine s_pickF rfl rfl (v := .sc (.bool false)) rfl rfl rfl rfl ?_
                  refine rt_nil ?_
                  refine Exists.intro ⟨false, h⟩ ?_
                  refine entX [] [] trivial trivial rfl rfl ?_
                  exact ⟨(.free rfl), (.free rfl), (.free rfl), (.free rfl), trivial⟩
            · replace h := cond_f h b9
              refine s_skip rfl rfl rfl ?_
              refine s_skip rfl rfl rfl ?_
              refine s_skip rfl rfl rfl ?_
              refine s_skip rfl rfl rfl ?_
              refine s_skip rfl rfl rfl ?_
              refine s_skip rfl rfl rfl ?_
              refine s_pickF rfl rfl (v := .sc (.bool false)) rfl rfl rfl rfl ?_
              refine s_mv (.inl rfl) (by conv => lhs; whnf) rfl rfl rfl ?_
              refine s_skip rfl rfl rfl ?_
              refine s_skip rfl rfl rfl ?_
              refine s_pickF rfl rfl (v := .sc (.bool false)) rfl rfl rfl rfl ?_
              refine s_mv (.inl rfl) (by conv => lhs; whnf) rfl rfl rfl ?_
              refine s_skip rfl rfl rfl ?_
              refine s_skip rfl rfl rfl ?_
              refine s_pickF rfl rfl (v := .sc (.bool false)) rfl rfl rfl rfl ?_
              refine rt_nil ?_
              refine Exists.intro ⟨false, h⟩ ?_
              refine entX [] [] trivial trivial rfl rfl ?_
              exact ⟨(.free rfl), (.free rfl), (.free rfl), (.free rfl), trivial⟩
        · rintro ⟨j2_0, h⟩
          replace h : i_LabelOk_j2 v1_0 (i_LabelOk_l1 p0 f1) j2_0 = some r0 := h
          unfold i_LabelOk_j2 at h
          show Tri _ _ _ (inv_i_LabelOk_2 p0 v1_0 j2_0)
          refine tri_cond rfl (fun c4 => ?_) (fun c4 => ?_)
          · replace h := cond_t h c4
            refine tri_seq ?_
            refine tri_region ?_
            refine s_mv (.inr rfl) (v := .sc (.bool false)) rfl rfl rfl rfl ?_
            refine rt_nil ?_
            refine tri_ret ?_
            have e0 := (some1 h); subst e0
            exact endY [] [] (rvC (resTmp rfl) rvN) trivial trivial rfl rfl rfl rfl (.free rfl)
          · replace h := cond_f h c4
            refine tri_skip ?_
            refine tri_region ?_
            refine grd_elim h fun g5 h => ?_
            refine s_addI rfl rfl rfl rfl g5 rfl rfl rfl ?_
            refine s_mv (.inl rfl) (by conv => lhs; whnf) rfl rfl rfl ?_
            refine rt_nil ?_
            refine Exists.intro ⟨(f1, v1_0 + 1), h⟩ (And.intro (Nat.lt_succ_self _) ?_)
            refine entX [] [] trivial trivial rfl rfl ?_
            exact ⟨(.free rfl), (.free rfl), (.free rfl), trivial⟩
      · replace h := cond_f h c1
        refine tri_exit ?_
        refine Exists.intro ⟨(), h⟩ ?_
        refine entX [] [] trivial trivial rfl rfl ?_
        exact ⟨(.free rfl), trivial⟩
  · rintro ⟨u, h⟩
    replace h : i_LabelOk_j0 p0 = some r0 := h
    unfold i_LabelOk_j0 at h
    show Tri _ _ _ (inv_i_LabelOk_0 p0)
    refine tri_seq ?_
    refine tri_region ?_
    refine s_mv (.inl rfl) (by conv => lhs; whnf) rfl rfl rfl ?_
    refine s_of (st_lenS rfl rfl iss9) rfl rfl rfl rfl ?_
    refine s_of (st_geq rfl rfl rfl) rfl rfl rfl rfl ?_
    refine s_mv (.inl rfl) (by conv => lhs; whnf) rfl rfl rfl ?_
    refine s_split (t := 39) rfl (fun b1 => ?_) (fun b1 => ?_)
    · replace h := cond_t h b1
      refine s_mv (.inl rfl) (by conv => lhs; whnf) rfl rfl rfl ?_
      refine s_of (st_lenS rfl rfl iss9) rfl rfl rfl rfl ?_
      refine s_of (st_leq rfl rfl rfl) rfl rfl rfl rfl ?_
      refine s_pickT rfl rfl (by conv => lhs; whnf) rfl rfl rfl ?_
      refine s_mv (.inr rfl) (by conv => lhs; whnf) rfl rfl rfl ?_
      refine rt_nil ?_
      refine tri_ret ?_
      have e0 := (some1 h); subst e0
      exact endY [] [] (rvC (resTmp rfl) rvN) trivial trivial rfl rfl rfl rfl (.free rfl)
    · replace h := cond_f h b1
      refine s_skip rfl rfl rfl ?_
      refine s_skip rfl rfl rfl ?_
      refine s_skip rfl rfl rfl ?_
      refine s_pickF rfl rfl (v := .sc (.bool false)) rfl rfl rfl rfl ?_
      refine s_mv (.inr rfl) (by conv => lhs; whnf) rfl rfl rfl ?_
      refine rt_nil ?_
      refine tri_ret ?_
      have e0 := (some1 h); subst e0
      exact endY [] [] (rvC (resTmp rfl) rvN) trivial trivial rfl rfl rfl rfl (.free rfl)

/- impl.NameOk$1 -/

set_option maxRecDepth 4000 in
set_option maxHeartbeats 800000 in
theorem wi_NameOk_1 (p0 : ByteArray) (r0 : Bool) (h : i_NameOk_1 p0 = some r0) : Runs Tryd.prog 97 [.sc (.string p0)] [] (.sc (.bool r0)) [] := by
  unfold i_NameOk_1 at h
  refine runsR [.tmp 2] Tryd.func97 rfl rfl rfl rfl ?_
  rw [Tryd.ntmps97]
  refine tri_seq ?_
  refine tri_region ?_
  refine s_mv (.inr rfl) (v := .sc (.bool false)) rfl rfl rfl rfl ?_
  refine rt_nil ?_
  refine tri_seq ?_
  refine tri_region ?_
  refine s_mv (.inl rfl) (by conv => lhs; whnf) rfl rfl rfl ?_
  refine bnd1_elim h fun x1 q2 h => ?_
  refine s_callN (kb := []) (ns := []) (v := .sc (.bool x1)) rfl rfl cl98 (wi_LabelOk p0 x1 q2) rfl (.cons (.free rfl) .nil) trivial memNil .nil memNil rfl trivial memNil rfl rfl rfl rfl rfl rfl ?_
  refine s_of (st_not rfl rfl) rfl rfl rfl rfl ?_
  refine s_mv (.inr rfl) (by conv => lhs; whnf) rfl rfl rfl ?_
  refine rt_nil ?_
  refine tri_ret ?_
  have e0 := (some1 h); subst e0
  exact endY [] [] (rvC (resTmp rfl) rvN) trivial trivial rfl rfl rfl rfl (.free rfl)

/- impl.NameOk -/

set_option maxRecDepth 4000 in
set_option maxHeartbeats 800000 in
theorem wi_NameOk (p0 : ByteArray) (r0 : Bool) (h : i_NameOk p0 = some r0) : Runs Tryd.prog 50 [.sc (.string p0)] [] (.sc (.bool r0)) [] := by
  unfold i_NameOk at h
  refine runsR [.tmp 2] Tryd.func50 rfl rfl rfl rfl ?_
  rw [Tryd.ntmps50]
  refine tri_seq ?_
  refine tri_region ?_
  refine s_mv (.inr rfl) (v := .sc (.bool false)) rfl rfl rfl rfl ?_
  refine rt_nil ?_
  refine tri_seq ?_
  refine tri_region ?_
  refine s_mv (.inl rfl) (by conv => lhs; whnf) rfl rfl rfl ?_
  refine bnd1_elim h fun x1 q2 h => ?_
  refine s_callN (kb := []) (ns := []) (v := .ref (5, 0) 0 x1.length) rfl rfl cl95 (wi_Labels p0 x1 q2) rfl (.cons (.free rfl) .nil) trivial memNil .nil memNil rfl ⟨(allSc_map strV_sc), trivial⟩ memNil rfl (by first | (simp only [V.mat, V.mat1, V.mat0, matL, matT, List.length_map]; done) | (simp only [V.mat, V.mat1, V.mat0, matL, matT, List.length_map]; rfl)) rfl rfl rfl rfl ?_
  refine s_mv (.inr rfl) (by conv => lhs; whnf) rfl rfl rfl ?_
  refine rt_nil ?_
  refine tri_seq ?_
  refine tri_region ?_
  refine s_mv (.inl rfl) (by conv => lhs; whnf) rfl rfl rfl ?_
  refine s_of (st_lenS rfl rfl iss9) rfl rfl rfl rfl ?_
  refine s_of (st_leq rfl rfl rfl) rfl rfl rfl rfl ?_
  refine s_mv (.inl rfl) (by conv => lhs; whnf) rfl rfl rfl ?_
  refine s_split (t := 9) rfl (fun b3 => ?_) (fun b3 => ?_)
  · replace h := cond_t h b3
    refine s_mv (.inl rfl) (by conv => lhs; whnf) rfl rfl rfl ?_
    refine s_len (m := x1.length) rfl sl108 rfl rfl rfl rfl ?_
    refine s_of (st_leq rfl rfl rfl) rfl rfl rfl rfl ?_
    refine s_pickT rfl rfl (by conv => lhs; whnf) rfl rfl rfl ?_
    refine s_mv (.inl rfl) (by conv => lhs; whnf) rfl rfl rfl ?_
    refine s_split (t := 14) rfl (fun b4 => ?_) (fun b4 => ?_)
    · replace h := cond_t h b4
      refine s_mv (.inl rfl) (by conv => lhs; whnf) rfl rfl rfl ?_
      refine bnd1_elim h fun x5 q6 h => ?_
      refine s_callN (kb := [(5, 0)]) (ns := []) (v := .sc (.bool x5)) rfl rfl cl96 (wslices_ContainsFunc_string x1 97 [] rfl cl97 (fun a0 => i_NameOk_1 a0) (fun a0 v0 hv => wi_NameOk_1 a0 v0 hv) x5 q6) rfl (.cons (lendL rfl (.head _) rfl strV_free strV_len) (.cons relFn0 .nil)) trivial memNil .nil (fun _ _ => List.not_mem_nil) rfl trivial memNil rfl rfl rfl rfl rfl rfl ?_
      refine s_of (st_not rfl rfl) rfl rfl rfl rfl ?_
      refine s_pickT rfl rfl (by conv => lhs; whnf) rfl rfl rfl ?_
      refine s_mv (.inr rfl) (by conv => lhs; whnf) rfl rfl rfl ?_
      refine rt_nil ?_
      refine tri_ret ?_
      have e0 := (some1 h); subst e0
      exact endY [] [] (rvC (resTmp rfl) rvN) trivial trivial rfl rfl rfl rfl (.free rfl)
    · replace h := cond_f h b4
      refine s_skip rfl rfl rfl ?_
      refine s_skip rfl rfl rfl ?_
      refine s_skip rfl rfl rfl ?_
      refine s_pickF rfl rfl (v := .sc (.bool false)) rfl rfl rfl rfl ?_
      refine s_mv (.inr rfl) (by conv => lhs; whnf) rfl rfl rfl ?_
      refine rt_nil ?_
      refine tri_ret ?_
      have e0 := (some1 h); subst e0
      exact endY [] [] (rvC (resTmp rfl) rvN) trivial trivial rfl rfl rfl rfl (.free rfl)
  · replace h := cond_f h b3
    refine s_skip rfl rfl rfl ?_
    refine s_skip rfl rfl rfl ?_
    refine s_skip rfl rfl rfl ?_
    refine s_pickF rfl rfl (v := .sc (.bool false)) rfl rfl rfl rfl ?_
    refine s_mv (.inl rfl) (by conv => lhs; whnf) rfl rfl rfl ?_
    refine s_skip rfl rfl rfl ?_
    refine s_skip rfl rfl rfl ?_
    refine s_skip rfl rfl rfl ?_
    refine s_pickF rfl rfl (v := .sc (.bool false)) rfl rfl rfl rfl ?_
    refine s_mv (.inr rfl) (by conv => lhs; whnf) rfl rfl rfl ?_
    refine rt_nil ?_
    refine tri_ret ?_
    have e0 := (some1 h); subst e0
    exact endY [] [] (rvC (resTmp rfl) rvN) trivial trivial rfl rfl rfl rfl (.free rfl)

/- impl.TypeText -/

set_option maxRecDepth 4000 in
set_option maxHeartbeats 800000 in
theorem wi_TypeText (p0 : Int) (r0 : ByteArray) (h : i_TypeText p0 = some r0) : Runs Tryd.prog 115 [.sc (.int .i64 p0)] [] (.sc (.string r0)) [] := by
  unfold i_TypeText at h
  refine runsR [.tmp 2] Tryd.func115 rfl rfl rfl rfl ?_
  rw [Tryd.ntmps115]
  refine tri_seq ?_
  refine tri_region ?_
  refine s_mv (.inr rfl) (v := .sc (.string (⟨#[]⟩ : ByteArray))) rfl rfl rfl rfl ?_
  refine rt_nil ?_
  refine tri_seq ?_
  refine tri_seq ?_
  refine tri_region ?_
  refine s_mv (.inl rfl) (by conv => lhs; whnf) rfl rfl rfl ?_
  refine rt_nil ?_
  refine tri_block ?_
  refine tri_seq ?_
  refine tri_region ?_
  refine s_of (st_eqI rfl rfl rfl) rfl rfl rfl rfl ?_
  refine s_mv (.inr rfl) (by conv => lhs; whnf) rfl rfl rfl ?_
  refine rt_nil ?_
  refine tri_cond rfl (fun c1 => ?_) (fun c1 => ?_)
  · replace h := cond_t h c1
    refine tri_seq ?_
    refine tri_region ?_
    refine s_mv (.inr rfl) (v := .sc (.string (⟨#[97, 100, 100, 114]⟩ : ByteArray))) rfl rfl rfl rfl ?_
    refine rt_nil ?_
    refine tri_ret ?_
    have e0 := (some1 h); subst e0
    exact endY [] [] (rvC (resTmp rfl) rvN) trivial trivial rfl rfl rfl rfl (.free rfl)
  · replace h := cond_f h c1
    refine tri_seq ?_
    refine tri_region ?_
    refine s_of (st_eqI rfl rfl rfl) rfl rfl rfl rfl ?_
    refine s_mv (.inr rfl) (by conv => lhs; whnf) rfl rfl rfl ?_
    refine rt_nil ?_
    refine tri_cond rfl (fun c2 => ?_) (fun c2 => ?_)
    · replace h := cond_t h c2
      refine tri_seq ?_
      refine tri_region ?_
      refine s_mv (.inr rfl) (v := .sc (.string (⟨#[115, 101, 114, 118, 101, 114]⟩ : ByteArray))) rfl rfl rfl rfl ?_
      refine rt_nil ?_
      refine tri_ret ?_
      have e0 := (some1 h); subst e0
      exact endY [] [] (rvC (resTmp rfl) rvN) trivial trivial rfl rfl rfl rfl (.free rfl)
    · replace h := cond_f h c2
      refine tri_seq ?_
      refine tri_region ?_
      refine s_of (st_eqI rfl rfl rfl) rfl rfl rfl rfl ?_
      refine s_mv (.inr rfl) (by conv => lhs; whnf) rfl rfl rfl ?_
      refine rt_nil ?_
      refine tri_cond rfl (fun c3 => ?_) (fun c3 => ?_)
      · replace h := cond_t h c3
        refine tri_seq ?_
        refine tri_region ?_
        refine s_mv (.inr rfl) (v := .sc (.string (⟨#[97, 108, 105, 97, 115]⟩ : ByteArray))) rfl rfl rfl rfl ?_
        refine rt_nil ?_
        refine tri_ret ?_
        have e0 := (some1 h); subst e0
        exact endY [] [] (rvC (resTmp rfl) rvN) trivial trivial rfl rfl rfl rfl (.free rfl)
      · replace h := cond_f h c3
        refine tri_seq ?_
        refine tri_region ?_
        refine s_of (st_eqI rfl rfl rfl) rfl rfl rfl rfl ?_
        refine s_mv (.inr rfl) (by conv => lhs; whnf) rfl rfl rfl ?_
        refine rt_nil ?_
        refine tri_cond rfl (fun c4 => ?_) (fun c4 => ?_)
        · replace h := cond_t h c4
          refine tri_seq ?_
          refine tri_region ?_
          refine s_mv (.inr rfl) (v := .sc (.string (⟨#[115, 116, 97, 114, 116]⟩ : ByteArray))) rfl rfl rfl rfl ?_
          refine rt_nil ?_
          refine tri_ret ?_
          have e0 := (some1 h); subst e0
          exact endY [] [] (rvC (resTmp rfl) rvN) trivial trivial rfl rfl rfl rfl (.free rfl)
        · replace h := cond_f h c4
          refine tri_seq ?_
          refine tri_region ?_
          refine s_of (st_eqI rfl rfl rfl) rfl rfl rfl rfl ?_
          refine s_mv (.inr rfl) (by conv => lhs; whnf) rfl rfl rfl ?_
          refine rt_nil ?_
          refine tri_cond rfl (fun c5 => ?_) (fun c5 => ?_)
          · replace h := cond_t h c5
            refine tri_seq ?_
            refine tri_region ?_
            refine s_mv (.inr rfl) (v := .sc (.string (⟨#[116, 101, 120, 116]⟩ : ByteArray))) rfl rfl rfl rfl ?_
            refine rt_nil ?_
            refine tri_ret ?_
            have e0 := (some1 h); subst e0
            exact endY [] [] (rvC (resTmp rfl) rvN) trivial trivial rfl rfl rfl rfl (.free rfl)
          · replace h := cond_f h c5
            refine tri_skip ?_
            refine tri_seq ?_
            refine tri_region ?_
            refine s_mv (.inr rfl) (v := .sc (.string (⟨#[]⟩ : ByteArray))) rfl rfl rfl rfl ?_
            refine rt_nil ?_
            refine tri_ret ?_
            have e0 := (some1 h); subst e0
            exact endY [] [] (rvC (resTmp rfl) rvN) trivial trivial rfl rfl rfl rfl (.free rfl)

/- impl.TypeOk -/

set_option maxRecDepth 4000 in
set_option maxHeartbeats 800000 in
theorem wi_TypeOk (p0 : Int) (r0 : Bool) (h : i_TypeOk p0 = some r0) : Runs Tryd.prog 91 [.sc (.int .i64 p0)] [] (.sc (.bool r0)) [] := by
  unfold i_TypeOk at h
  refine runsR [.tmp 2] Tryd.func91 rfl rfl rfl rfl ?_
  rw [Tryd.ntmps91]
  refine tri_seq ?_
  refine tri_region ?_
  refine s_mv (.inr rfl) (v := .sc (.bool false)) rfl rfl rfl rfl ?_
  refine rt_nil ?_
  refine tri_seq ?_
  refine tri_region ?_
  refine s_mv (.inl rfl) (by conv => lhs; whnf) rfl rfl rfl ?_
  refine bnd1_elim h fun x1 q2 h => ?_
  refine s_callN (kb := []) (ns := []) (v := .sc (.string x1)) rfl rfl cl115 (wi_TypeText p0 x1 q2) rfl (.cons (.free rfl) .nil) trivial memNil .nil memNil rfl trivial memNil rfl rfl rfl rfl rfl rfl ?_
  refine s_of (st_neS rfl rfl rfl) rfl rfl rfl rfl ?_
  refine s_mv (.inr rfl) (by conv => lhs; whnf) rfl rfl rfl ?_
  refine rt_nil ?_
  refine tri_ret ?_
  have e0 := (some1 h); subst e0
  exact endY [] [] (rvC (resTmp rfl) rvN) trivial trivial rfl rfl rfl rfl (.free rfl)

/- impl.QuestOk -/

set_option maxRecDepth 4000 in
set_option maxHeartbeats 800000 in
theorem wi_QuestOk (p0 : Quest) (r0 : Bool) (h : i_QuestOk p0 = some r0) : Runs Tryd.prog 47 [.agg (questV p0)] [] (.sc (.bool r0)) [] := by
  unfold i_QuestOk at h
  refine runsR [.tmp 2] Tryd.func47 rfl rfl rfl rfl ?_
  rw [Tryd.ntmps47]
  refine tri_seq ?_
  refine tri_region ?_
  refine s_box rfl rfl rfl rfl rfl rfl rfl ?_
  refine s_mv (.inr rfl) (v := .sc (.bool false)) rfl rfl rfl rfl ?_
  refine rt_nil ?_
  refine tri_seq ?_
  refine tri_region ?_
  refine s_fieldAddr rfl rfl fd29_0 rfl rfl rfl rfl ?_
  refine s_load rfl rfl rfl rfl ty9 rfl (.inr rfl) (by conv => lhs; whnf) rfl rfl rfl ?_
  refine bnd1_elim h fun x1 q2 h => ?_
  refine s_callN (kb := []) (ns := []) (v := .sc (.bool x1)) rfl rfl cl50 (wi_NameOk p0.name x1 q2) rfl (.cons (.free rfl) .nil) trivial memNil .nil memNil rfl trivial memNil rfl rfl rfl rfl rfl rfl ?_
  refine s_mv (.inl rfl) (by conv => lhs; whnf) rfl rfl rfl ?_
  refine s_split (t := 6) rfl (fun b3 => ?_) (fun b3 => ?_)
  · replace h := cond_t h b3
    refine s_fieldAddr rfl rfl fd29_1 rfl rfl rfl rfl ?_
    refine s_load rfl rfl rfl rfl ty3 rfl (.inr rfl) (by conv => lhs; whnf) rfl rfl rfl ?_
    refine bnd1_elim h fun x4 q5 h => ?_
    refine s_callN (kb := []) (ns := []) (v := .sc (.bool x4)) rfl rfl cl91 (wi_TypeOk p0.ty x4 q5) rfl (.cons (.free rfl) .nil) trivial memNil .nil memNil rfl trivial memNil rfl rfl rfl rfl rfl rfl ?_
    refine s_pickT rfl rfl (by conv => lhs; whnf) rfl rfl rfl ?_
    refine s_mv (.inr rfl) (by conv => lhs; whnf) rfl rfl rfl ?_
    refine rt_nil ?_
    refine tri_ret ?_
    have e0 := (some1 h); subst e0
    exact endY [] [] (rvC (resTmp rfl) rvN) trivial trivial rfl rfl rfl rfl (.free rfl)
  · replace h := cond_f h b3
    refine s_skip rfl rfl rfl ?_
    refine s_skip rfl rfl rfl ?_
    refine s_skip rfl rfl rfl ?_
    refine s_pickF rfl rfl (v := .sc (.bool false)) rfl rfl rfl rfl ?_
    refine s_mv (.inr rfl) (by conv => lhs; whnf) rfl rfl rfl ?_
    refine rt_nil ?_
    refine tri_ret ?_
    have e0 := (some1 h); subst e0
    exact endY [] [] (rvC (resTmp rfl) rvN) trivial trivial rfl rfl rfl rfl (.free rfl)

/- impl.Record] -/
def inv_slices_IndexFunc_Record_0 (p0 : List Rec) (fi1 : FuncId) (cp1 : List V) (v0_0 : Nat) : St := mkT 19 [(0, .lst 6 (List.map recV p0)), (1, .fn fi1 cp1), (7, .sc (.int .i64 (p0.length : Int))), (8, .sc (.int .i64 (v0_0 : Int)))] []
set_option maxRecDepth 4000 in
set_option maxHeartbeats 800000 in
theorem wslices_IndexFunc_Record (p0 : List Rec) (fi1 : FuncId) (cp1 : List V) (hf1 : cp1.all (·.free) = true) (hb1 : callable Tryd.prog fi1 = true) (p1 : Rec → Option Bool) (hg1 : ∀ (z0 : Rec) v, p1 z0 = some v → Runs Tryd.prog fi1 ([.agg (recV z0)] ++ cp1) [] (.sc (.bool v)) []) (r0 : Int) (h : slices_IndexFunc_Record p0 p1 = some r0) : Runs Tryd.prog 116 [.lst 6 (List.map recV p0), .fn fi1 cp1] [] (.sc (.int .i64 r0)) [] := by
  unfold slices_IndexFunc_Record at h
  refine runsR [.tmp 4] Tryd.func116 rfl rfl rfl rfl ?_
  rw [Tryd.ntmps116]
  refine tri_seq ?_
  refine tri_region ?_
  refine s_mv (.inr rfl) (v := .sc (.int .i64 0)) rfl rfl rfl rfl ?_
  refine rt_nil ?_
  refine tri_seq ?_
  refine tri_seq ?_
  refine tri_region ?_
  refine s_mv (.inl rfl) (by conv => lhs; whnf) rfl rfl rfl ?_
  refine s_lenL rfl sl30 rfl rfl rfl rfl ?_
  refine s_mv (.inl rfl) (v := .sc (.int .i64 0)) rfl rfl rfl rfl ?_
  refine rt_nil ?_
  refine tri_block ?_
  refine tri_lstM 0 rfl (fun hl0 => ?_)
  refine tri_loop (ι := { p : (List Rec) × Nat // p0.drop p.2 = p.1 ∧ slices_IndexFunc_Record_l0 p1 p.1 p.2 = some r0 }) (fun p => inv_slices_IndexFunc_Record_0 p0 fi1 cp1 p.1.2) (fun p => p.1.1.length) ⟨(p0, 0), rfl, h⟩ ?_ ?_
  · skip
    refine entX [] [] trivial trivial rfl rfl ?_
    exact ⟨(.free rfl), (cvFn hf1), (.free rfl), (.free rfl), trivial⟩
  · rintro ⟨⟨lrs0, v0_0⟩, hd0, h⟩
    replace hd0 : p0.drop v0_0 = lrs0 := hd0
    replace h : slices_IndexFunc_Record_l0 p1 lrs0 v0_0 = some r0 := h
    show Tri _ _ _ (inv_slices_IndexFunc_Record_0 p0 fi1 cp1 v0_0)
    refine tri_seq ?_
    refine tri_region ?_
    refine s_of (st_lss rfl rfl rfl) rfl rfl rfl rfl ?_
    refine rt_nil ?_
    refine tri_seq ?_
    refine tri_cond rfl (fun c1 => ?_) (fun c1 => ?_)
    · refine drop_elim hd0 c1 fun e0 rs0 he hx0 hn0 => ?_
      subst he
      rw [slices_IndexFunc_Record_l0] at h
      refine tri_skip ?_
      refine tri_seq ?_
      refine tri_block ?_
      refine tri_seq ?_
      refine tri_region ?_
      refine s_mv (.inl rfl) (by conv => lhs; whnf) rfl rfl rfl ?_
      refine s_mv (.inr rfl) (by conv => lhs; whnf) rfl rfl rfl ?_
      refine rt_nil ?_
      refine tri_seq ?_
      refine tri_region ?_
      refine s_mv (.inl rfl) (by conv => lhs; whnf) rfl rfl rfl ?_
      refine s_mv (.inl rfl) (by conv => lhs; whnf) rfl rfl rfl ?_
      refine s_mv (.inl rfl) (by conv => lhs; whnf) rfl rfl rfl ?_
      refine s_indexF (i := v0_0) rfl rfl rfl sl30 (get_ltM hx0) rfl rfl rfl ?_
      refine s_loadFR rfl rfl (rowG hx0) ty60 rfl rfl rfl ?_
      refine bnd1_elim h fun x2 q3 h => ?_
      refine s_callN (kb := []) (ns := []) (v := .sc (.bool x2)) rfl rfl hb1 (hg1 e0 x2 q3) rfl (.cons (relAgg rfl) (argsFree hf1)) trivial memNil .nil memNil rfl trivial memNil rfl rfl rfl rfl rfl rfl ?_
      refine rt_nil ?_
      refine tri_cond rfl (fun c4 => ?_) (fun c4 => ?_)
      · replace h := cond_t h c4
        refine tri_seq ?_
        refine tri_region ?_
        refine s_mv (.inl rfl) (by conv => lhs; whnf) rfl rfl rfl ?_
        refine s_mv (.inr rfl) (by conv => lhs; whnf) rfl rfl rfl ?_
        refine rt_nil ?_
        refine tri_ret ?_
        have e0 := (some1 h); subst e0
        exact endY [] [] (rvC (resTmp rfl) rvN) trivial trivial rfl rfl rfl rfl (.free rfl)
      · replace h := cond_f h c4
        refine tri_skip ?_
        refine tri_region ?_
        refine s_inc (a := v0_0) (b := 1) rfl rfl rfl rfl (by have := get_lt hx0; have := hl0; omega) rfl rfl rfl ?_
        refine s_mv (.inl rfl) (by conv => lhs; whnf) rfl rfl rfl ?_
        refine rt_nil ?_
        refine Exists.intro ⟨(rs0, (v0_0 + 1)), hn0, h⟩ (And.intro (Nat.lt_succ_self _) ?_)
        refine entX [] [] trivial trivial rfl rfl ?_
        exact ⟨(.free rfl), (cvFn hf1), (.free rfl), (.free rfl), trivial⟩
    · have he := drop_f hd0 c1; subst he
      rw [slices_IndexFunc_Record_l0] at h
      refine tri_exit ?_
      refine tri_seq ?_
      refine tri_region ?_
      refine s_mv (.inr rfl) (v := .sc (.int .i64 (-1))) rfl rfl rfl rfl ?_
      refine rt_nil ?_
      refine tri_ret ?_
      have e0 := (some1 h); subst e0
      exact endY [] [] (rvC (resTmp rfl) rvN) trivial trivial rfl rfl rfl rfl (.free rfl)

/- impl.Record] -/

set_option maxRecDepth 4000 in
set_option maxHeartbeats 800000 in
theorem wslices_ContainsFunc_Record (p0 : List Rec) (fi1 : FuncId) (cp1 : List V) (hf1 : cp1.all (·.free) = true) (hb1 : callable Tryd.prog fi1 = true) (p1 : Rec → Option Bool) (hg1 : ∀ (z0 : Rec) v, p1 z0 = some v → Runs Tryd.prog fi1 ([.agg (recV z0)] ++ cp1) [] (.sc (.bool v)) []) (r0 : Bool) (h : slices_ContainsFunc_Record p0 p1 = some r0) : Runs Tryd.prog 92 [.lst 6 (List.map recV p0), .fn fi1 cp1] [] (.sc (.bool r0)) [] := by
  unfold slices_ContainsFunc_Record at h
  refine runsR [.tmp 4] Tryd.func92 rfl rfl rfl rfl ?_
  rw [Tryd.ntmps92]
  refine tri_seq ?_
  refine tri_region ?_
  refine s_mv (.inr rfl) (v := .sc (.bool false)) rfl rfl rfl rfl ?_
  refine rt_nil ?_
  refine tri_seq ?_
  refine tri_region ?_
  refine s_mv (.inl rfl) (by conv => lhs; whnf) rfl rfl rfl ?_
  refine s_mv (.inl rfl) (by conv => lhs; whnf) rfl rfl rfl ?_
  refine bnd1_elim h fun x1 q2 h => ?_
  refine s_callN (kb := []) (ns := []) (v := .sc (.int .i64 x1)) rfl rfl cl116 (wslices_IndexFunc_Record p0 fi1 cp1 hf1 hb1 p1 hg1 x1 q2) rfl (.cons (.free rfl) (.cons (relFn hf1) .nil)) trivial memNil .nil memNil rfl trivial memNil rfl rfl rfl rfl rfl rfl ?_
  refine s_of (st_geq rfl rfl rfl) rfl rfl rfl rfl ?_
  refine s_mv (.inr rfl) (by conv => lhs; whnf) rfl rfl rfl ?_
  refine rt_nil ?_
  refine tri_ret ?_
  have e0 := (some1 h); subst e0
  exact endY [] [] (rvC (resTmp rfl) rvN) trivial trivial rfl rfl rfl rfl (.free rfl)

/- impl.isTtl -/

set_option maxRecDepth 4000 in
set_option maxHeartbeats 800000 in
theorem wi_isTtl (p0 : Int) (r0 : Bool) (h : i_isTtl p0 = some r0) : Runs Tryd.prog 117 [.sc (.int .i64 p0)] [] (.sc (.bool r0)) [] := by
  unfold i_isTtl at h
  refine runsR [.tmp 2] Tryd.func117 rfl rfl rfl rfl ?_
  rw [Tryd.ntmps117]
  refine tri_seq ?_
  refine tri_region ?_
  refine s_mv (.inr rfl) (v := .sc (.bool false)) rfl rfl rfl rfl ?_
  refine rt_nil ?_
  refine tri_seq ?_
  refine tri_region ?_
  refine s_mv (.inl rfl) (by conv => lhs; whnf) rfl rfl rfl ?_
  refine s_of (st_geq rfl rfl rfl) rfl rfl rfl rfl ?_
  refine s_mv (.inl rfl) (by conv => lhs; whnf) rfl rfl rfl ?_
  refine s_split (t := 5) rfl (fun b1 => ?_) (fun b1 => ?_)
  · replace h := cond_t h b1
    refine s_mv (.inl rfl) (by conv => lhs; whnf) rfl rfl rfl ?_
    refine s_of (st_leq rfl rfl rfl) rfl rfl rfl rfl ?_
    refine s_pickT rfl rfl (by conv => lhs; whnf) rfl rfl rfl ?_
    refine s_mv (.inr rfl) (by conv => lhs; whnf) rfl rfl rfl ?_
    refine rt_nil ?_
    refine tri_ret ?_
    have e0 := (some1 h); subst e0
    exact endY [] [] (rvC (resTmp rfl) rvN) trivial trivial rfl rfl rfl rfl (.free rfl)
  · replace h := cond_f h b1
    refine s_skip rfl rfl rfl ?_
    refine s_skip rfl rfl rfl ?_
    refine s_pickF rfl rfl (v := .sc (.bool false)) rfl rfl rfl rfl ?_
    refine s_mv (.inr rfl) (by conv => lhs; whnf) rfl rfl rfl ?_
    refine rt_nil ?_
    refine tri_ret ?_
    have e0 := (some1 h); subst e0
    exact endY [] [] (rvC (resTmp rfl) rvN) trivial trivial rfl rfl rfl rfl (.free rfl)

/- impl.isFour -/

set_option maxRecDepth 4000 in
set_option maxHeartbeats 800000 in
theorem wi_isFour (p0 : Int) (r0 : Bool) (h : i_isFour p0 = some r0) : Runs Tryd.prog 118 [.sc (.int .i64 p0)] [] (.sc (.bool r0)) [] := by
  unfold i_isFour at h
  refine runsR [.tmp 2] Tryd.func118 rfl rfl rfl rfl ?_
  rw [Tryd.ntmps118]
  refine tri_seq ?_
  refine tri_region ?_
  refine s_mv (.inr rfl) (v := .sc (.bool false)) rfl rfl rfl rfl ?_
  refine rt_nil ?_
  refine tri_seq ?_
  refine tri_region ?_
  refine s_mv (.inl rfl) (by conv => lhs; whnf) rfl rfl rfl ?_
  refine s_of (st_geq rfl rfl rfl) rfl rfl rfl rfl ?_
  refine s_mv (.inl rfl) (by conv => lhs; whnf) rfl rfl rfl ?_
  refine s_split (t := 5) rfl (fun b1 => ?_) (fun b1 => ?_)
  · replace h := cond_t h b1
    refine s_mv (.inl rfl) (by conv => lhs; whnf) rfl rfl rfl ?_
    refine s_of (st_leq rfl rfl rfl) rfl rfl rfl rfl ?_
    refine s_pickT rfl rfl (by conv => lhs; whnf) rfl rfl rfl ?_
    refine s_mv (.inr rfl) (by conv => lhs; whnf) rfl rfl rfl ?_
    refine rt_nil ?_
    refine tri_ret ?_
    have e0 := (some1 h); subst e0
    exact endY [] [] (rvC (resTmp rfl) rvN) trivial trivial rfl rfl rfl rfl (.free rfl)
  · replace h := cond_f h b1
    refine s_skip rfl rfl rfl ?_
    refine s_skip rfl rfl rfl ?_
    refine s_pickF rfl rfl (v := .sc (.bool false)) rfl rfl rfl rfl ?_
    refine s_mv (.inr rfl) (by conv => lhs; whnf) rfl rfl rfl ?_
    refine rt_nil ?_
    refine tri_ret ?_
    have e0 := (some1 h); subst e0
    exact endY [] [] (rvC (resTmp rfl) rvN) trivial trivial rfl rfl rfl rfl (.free rfl)

/- impl.isText -/
def inv_i_isText_2 (p0 : ByteArray) (v1_0 : Int) (j2_0 : Bool) : St := mkT 23 [(0, .sc (.string p0)), (5, .sc (.int .i64 (p0.size : Int))), (6, .sc (.int .i64 v1_0)), (18, .sc (.bool j2_0))] []
def inv_i_isText_1 (p0 : ByteArray) (v1_0 : Int) : St := mkT 23 [(0, .sc (.string p0)), (5, .sc (.int .i64 (p0.size : Int))), (6, .sc (.int .i64 v1_0))] []
def inv_i_isText_0 (p0 : ByteArray) : St := mkT 23 [(0, .sc (.string p0))] []
set_option maxRecDepth 4000 in
set_option maxHeartbeats 800000 in
theorem wi_isText (p0 : ByteArray) (r0 : Bool) (h : i_isText p0 = some r0) : Runs Tryd.prog 119 [.sc (.string p0)] [] (.sc (.bool r0)) [] := by
  unfold i_isText at h
  refine runsR [.tmp 2] Tryd.func119 rfl rfl rfl rfl ?_
  rw [Tryd.ntmps119]
  refine tri_seq ?_
  refine tri_region ?_
  refine s_mv (.inr rfl) (v := .sc (.bool false)) rfl rfl rfl rfl ?_
  refine rt_nil ?_
  refine tri_cutI (ι := { p : Unit // i_isText_j0 p0 = some r0 }) (fun p => inv_i_isText_0 p0) ?_ ?_
  · skip
    refine tri_seq ?_
    refine tri_region ?_
    refine s_mv (.inl rfl) (by conv => lhs; whnf) rfl rfl rfl ?_
    refine s_of (st_lenS rfl rfl iss9) rfl rfl rfl rfl ?_
    refine s_mv (.inl rfl) (v := .sc (.int .i64 0)) rfl rfl rfl rfl ?_
    refine rt_nil ?_
    refine tri_block ?_
    refine tri_loop (ι := { p : Nat × Int // i_isText_l1 p0 p.1 p.2 = some r0 }) (fun p => inv_i_isText_1 p0 p.1.2) (fun p => p.1.1) ⟨(fuel0, 0), h⟩ ?_ ?_
    · skip
      refine entX [] [] trivial trivial rfl rfl ?_
      exact ⟨(.free rfl), (.free rfl), (.free rfl), trivial⟩
    · rintro ⟨⟨f1, v1_0⟩, h⟩
      replace h : i_isText_l1 p0 f1 v1_0 = some r0 := h
      cases f1 with
      | zero => cases h
      | succ f1 =>
      rw [i_isText_l1] at h
      show Tri _ _ _ (inv_i_isText_1 p0 v1_0)
      refine tri_seq ?_
      refine tri_region ?_
      refine s_of (st_lss rfl rfl rfl) rfl rfl rfl rfl ?_
      refine rt_nil ?_
      refine tri_seq ?_
      refine tri_cond rfl (fun c1 => ?_) (fun c1 => ?_)
      · replace h := cond_t h c1
        refine tri_skip ?_
        refine tri_seq ?_
        refine tri_block ?_
        refine tri_seq ?_
        refine tri_region ?_
        refine s_mv (.inl rfl) (by conv => lhs; whnf) rfl rfl rfl ?_
        refine s_mv (.inr rfl) (by conv => lhs; whnf) rfl rfl rfl ?_
        refine rt_nil ?_
        refine tri_cutI (ι := { p : Bool // i_isText_j2 v1_0 (i_isText_l1 p0 f1) p = some r0 }) (fun p => inv_i_isText_2 p0 v1_0 p.1) ?_ ?_
        · skip
          refine tri_region ?_
          refine s_mv (.inl rfl) (by conv => lhs; whnf) rfl rfl rfl ?_
          refine s_mv (.inl rfl) (by conv => lhs; whnf) rfl rfl rfl ?_
          refine bnd1_elim h fun x2 q3 h => ?_
          refine s_idxS rfl rfl rfl iss9 q3 rfl rfl rfl ?_
          refine s_of (st_lss rfl rfl rfl) rfl rfl rfl rfl ?_
          refine s_mv (.inl rfl) (by conv => lhs; whnf) rfl rfl rfl ?_
          refine s_split (t := 13) rfl (fun b4 => ?_) (fun b4 => ?_)
          · replace h := cond_t h b4
            refine s_skip rfl rfl rfl ?_
            refine s_skip rfl rfl rfl ?_
            refine s_skip rfl rfl rfl ?_
            refine s_skip rfl rfl rfl ?_
            refine s_pickT rfl rfl (v := .sc (.bool true)) rfl rfl rfl rfl ?_
            refine rt_nil ?_
            refine Exists.intro ⟨true, h⟩ ?_
            refine entX [] [] trivial trivial rfl rfl ?_
            exact ⟨(.free rfl), (.free rfl), (.free rfl), (.free rfl), trivial⟩
          · replace h := cond_f h b4
            refine s_mv (.inl rfl) (by conv => lhs; whnf) rfl rfl rfl ?_
            refine s_mv (.inl rfl) (by conv => lhs; whnf) rfl rfl rfl ?_
            refine bnd1_elim h fun x5 q6 h => ?_
            refine s_idxS rfl rfl rfl iss9 q6 rfl rfl rfl ?_
            refine s_of (st_gtr rfl rfl rfl) rfl rfl rfl rfl ?_
            refine s_pickF rfl rfl (by conv => lhs; whnf) rfl rfl rfl ?_
            refine rt_nil ?_
            refine Exists.intro ⟨decide (126 < x5), h⟩ ?_
            refine entX [] [] trivial trivial rfl rfl ?_
            exact ⟨(.free rfl), (.free rfl), (.free rfl), (.free rfl), trivial⟩
        · rintro ⟨j2_0, h⟩
          replace h : i_isText_j2 v1_0 (i_isText_l1 p0 f1) j2_0 = some r0 := h
          unfold i_isText_j2 at h
          show Tri _ _ _ (inv_i_isText_2 p0 v1_0 j2_0)
          refine tri_cond rfl (fun c2 => ?_) (fun c2 => ?_)
          · replace h := cond_t h c2
            refine tri_seq ?_
            refine tri_region ?_
            refine s_mv (.inr rfl) (v := .sc (.bool false)) rfl rfl rfl rfl ?_
            refine rt_nil ?_
            refine tri_ret ?_
            have e0 := (some1 h); subst e0
            exact endY [] [] (rvC (resTmp rfl) rvN) trivial trivial rfl rfl rfl rfl (.free rfl)
          · replace h := cond_f h c2
            refine tri_skip ?_
            refine tri_region ?_
            refine grd_elim h fun g3 h => ?_
            refine s_addI rfl rfl rfl rfl g3 rfl rfl rfl ?_
            refine s_mv (.inl rfl) (by conv => lhs; whnf) rfl rfl rfl ?_
            refine rt_nil ?_
            refine Exists.intro ⟨(f1, v1_0 + 1), h⟩ (And.intro (Nat.lt_succ_self _) ?_)
            refine entX [] [] trivial trivial rfl rfl ?_
            exact ⟨(.free rfl), (.free rfl), (.free rfl), trivial⟩
      · replace h := cond_f h c1
        refine tri_exit ?_
        refine Exists.intro ⟨(), h⟩ ?_
        refine entX [] [] trivial trivial rfl rfl ?_
        exact ⟨(.free rfl), trivial⟩
  · rintro ⟨u, h⟩
    replace h : i_isText_j0 p0 = some r0 := h
    unfold i_isText_j0 at h
    show Tri _ _ _ (inv_i_isText_0 p0)
    refine tri_seq ?_
    refine tri_region ?_
    refine s_mv (.inl rfl) (by conv => lhs; whnf) rfl rfl rfl ?_
    refine s_of (st_lenS rfl rfl iss9) rfl rfl rfl rfl ?_
    refine s_of (st_leq rfl rfl rfl) rfl rfl rfl rfl ?_
    refine s_mv (.inr rfl) (by conv => lhs; whnf) rfl rfl rfl ?_
    refine rt_nil ?_
    refine tri_ret ?_
    have e0 := (some1 h); subst e0
    exact endY [] [] (rvC (resTmp rfl) rvN) trivial trivial rfl rfl rfl rfl (.free rfl)

/- impl.RecordOk -/
def inv_i_RecordOk_1 (p0 : Rec) (j1_0 : Bool) : St := mkT 76 [(1, .ptr (1, 0) 0 0), (14, .sc (.int .i64 p0.ty)), (30, .sc (.bool j1_0))] [((1, 0), some ⟨60, 6, [[.sc (.string p0.name), .sc (.int .i64 p0.ty), .sc (.int .i64 p0.ttl), .sc (.int .i64 p0.n), .sc (.string p0.host), .sc (.string p0.text)]], false, true⟩)]
def inv_i_RecordOk_0 (p0 : Rec) (j0_0 : Bool) : St := mkT 76 [(1, .ptr (1, 0) 0 0), (12, .sc (.bool j0_0))] [((1, 0), some ⟨60, 6, [[.sc (.string p0.name), .sc (.int .i64 p0.ty), .sc (.int .i64 p0.ttl), .sc (.int .i64 p0.n), .sc (.string p0.host), .sc (.string p0.text)]], false, true⟩)]
set_option maxRecDepth 4000 in
set_option maxHeartbeats 800000 in
theorem wi_RecordOk (p0 : Rec) (r0 : Bool) (h : i_RecordOk p0 = some r0) : Runs Tryd.prog 94 [.agg (recV p0)] [] (.sc (.bool r0)) [] := by
  unfold i_RecordOk at h
  refine runsR [.tmp 2] Tryd.func94 rfl rfl rfl rfl ?_
  rw [Tryd.ntmps94]
  refine tri_seq ?_
  refine tri_region ?_
  refine s_box rfl rfl rfl rfl rfl rfl rfl ?_
  refine s_mv (.inr rfl) (v := .sc (.bool false)) rfl rfl rfl rfl ?_
  refine rt_nil ?_
  refine tri_seq ?_
  refine tri_cutI (ι := { p : Bool // i_RecordOk_j0 p0 p = some r0 }) (fun p => inv_i_RecordOk_0 p0 p.1) ?_ ?_
  · skip
    refine tri_region ?_
    refine s_fieldAddr rfl rfl fd60_0 rfl rfl rfl rfl ?_
    refine s_load rfl rfl rfl rfl ty9 rfl (.inr rfl) (by conv => lhs; whnf) rfl rfl rfl ?_
    refine bnd1_elim h fun x1 q2 h => ?_
    refine s_callN (kb := []) (ns := []) (v := .sc (.bool x1)) rfl rfl cl50 (wi_NameOk p0.name x1 q2) rfl (.cons (.free rfl) .nil) trivial memNil .nil memNil rfl trivial memNil rfl rfl rfl rfl rfl rfl ?_
    refine s_of (st_not rfl rfl) rfl rfl rfl rfl ?_
    refine s_mv (.inl rfl) (by conv => lhs; whnf) rfl rfl rfl ?_
    refine s_split (t := 7) rfl (fun b3 => ?_) (fun b3 => ?_)
    · replace h := cond_t h b3
      refine s_skip rfl rfl rfl ?_
      refine s_skip rfl rfl rfl ?_
      refine s_skip rfl rfl rfl ?_
      refine s_skip rfl rfl rfl ?_
      refine s_pickT rfl rfl (v := .sc (.bool true)) rfl rfl rfl rfl ?_
      refine rt_nil ?_
      refine Exists.intro ⟨true, h⟩ ?_
      refine entX [((1, 0), ⟨60, 6, [[.sc (.string p0.name), .sc (.int .i64 p0.ty), .sc (.int .i64 p0.ttl), .sc (.int .i64 p0.n), .sc (.string p0.host), .sc (.string p0.text)]], false, true⟩, some (1, 0))] [] ⟨⟨rfl, _, rfl, rfl, rfl, rfl, id, rowsCv_one (.cons (.free rfl) (.cons (.free rfl) (.cons (.free rfl) (.cons (.free rfl) (.cons (.free rfl) (.cons (.free rfl) .nil)))))), rowsZ_one rfl⟩, trivial⟩ trivial rfl rfl ?_
      exact ⟨(.ptr rfl), (.free rfl), trivial⟩
    · replace h := cond_f h b3
      refine s_fieldAddr rfl rfl fd60_2 rfl rfl rfl rfl ?_
      refine s_load rfl rfl rfl rfl ty3 rfl (.inr rfl) (by conv => lhs; whnf) rfl rfl rfl ?_
      refine bnd1_elim h fun x4 q5 h => ?_
      refine s_callN (kb := []) (ns := []) (v := .sc (.bool x4)) rfl rfl cl117 (wi_isTtl p0.ttl x4 q5) rfl (.cons (.free rfl) .nil) trivial memNil .nil memNil rfl trivial memNil rfl rfl rfl rfl rfl rfl ?_
      refine s_of (st_not rfl rfl) rfl rfl rfl rfl ?_
      refine s_pickF rfl rfl (by conv => lhs; whnf) rfl rfl rfl ?_
      refine rt_nil ?_
      refine Exists.intro ⟨!x4, h⟩ ?_
      refine entX [((1, 0), ⟨60, 6, [[.sc (.string p0.name), .sc (.int .i64 p0.ty), .sc (.int .i64 p0.ttl), .sc (.int .i64 p0.n), .sc (.string p0.host), .sc (.string p0.text)]], false, true⟩, some (1, 0))] [] ⟨⟨rfl, _, rfl, rfl, rfl, rfl, id, rowsCv_one (.cons (.free rfl) (.cons (.free rfl) (.cons (.free rfl) (.cons (.free rfl) (.cons (.free rfl) (.cons (.free rfl) .nil)))))), rowsZ_one rfl⟩, trivial⟩ trivial rfl rfl ?_
      exact ⟨(.ptr rfl), (.free rfl), trivial⟩
  · rintro ⟨j0_0, h⟩
    replace h : i_RecordOk_j0 p0 j0_0 = some r0 := h
    unfold i_RecordOk_j0 at h
    show Tri _ _ _ (inv_i_RecordOk_0 p0 j0_0)
    refine tri_cond rfl (fun c1 => ?_) (fun c1 => ?_)
    · replace h := cond_t h c1
      refine tri_seq ?_
      refine tri_region ?_
      refine s_mv (.inr rfl) (v := .sc (.bool false)) rfl rfl rfl rfl ?_
      refine rt_nil ?_
      refine tri_ret ?_
      have e0 := (some1 h); subst e0
      exact endY [] [] (rvC (resTmp rfl) rvN) trivial trivial rfl rfl rfl rfl (.free rfl)
    · replace h := cond_f h c1
      refine tri_skip ?_
      refine tri_seq ?_
      refine tri_seq ?_
      refine tri_region ?_
      refine s_fieldAddr rfl rfl fd60_1 rfl rfl rfl rfl ?_
      refine s_load rfl rfl rfl rfl ty3 rfl (.inr rfl) (by conv => lhs; whnf) rfl rfl rfl ?_
      refine rt_nil ?_
      refine tri_block ?_
      refine tri_seq ?_
      refine tri_region ?_
      refine s_of (st_eqI rfl rfl rfl) rfl rfl rfl rfl ?_
      refine s_mv (.inr rfl) (by conv => lhs; whnf) rfl rfl rfl ?_
      refine rt_nil ?_
      refine tri_cond rfl (fun c2 => ?_) (fun c2 => ?_)
      · replace h := cond_t h c2
        refine tri_seq ?_
        refine tri_region ?_
        refine s_fieldAddr rfl rfl fd60_3 rfl rfl rfl rfl ?_
        refine s_load rfl rfl rfl rfl ty3 rfl (.inr rfl) (by conv => lhs; whnf) rfl rfl rfl ?_
        refine bnd1_elim h fun x3 q4 h => ?_
        refine s_callN (kb := []) (ns := []) (v := .sc (.bool x3)) rfl rfl cl118 (wi_isFour p0.n x3 q4) rfl (.cons (.free rfl) .nil) trivial memNil .nil memNil rfl trivial memNil rfl rfl rfl rfl rfl rfl ?_
        refine s_mv (.inl rfl) (by conv => lhs; whnf) rfl rfl rfl ?_
        refine s_split (t := 20) rfl (fun b5 => ?_) (fun b5 => ?_)
        · replace h := cond_t h b5
          refine s_fieldAddr rfl rfl fd60_4 rfl rfl rfl rfl ?_
          refine s_load rfl rfl rfl rfl ty9 rfl (.inr rfl) (by conv => lhs; whnf) rfl rfl rfl ?_
          refine s_of (st_eqS rfl rfl rfl) rfl rfl rfl rfl ?_
          refine s_pickT rfl rfl (by conv => lhs; whnf) rfl rfl rfl ?_
          refine s_mv (.inl rfl) (by conv => lhs; whnf) rfl rfl rfl ?_
          refine s_split (t := 25) rfl (fun b6 => ?_) (fun b6 => ?_)
          · replace h := cond_t h b6
            refine s_fieldAddr rfl rfl fd60_5 rfl rfl rfl rfl ?_
            refine s_load rfl rfl rfl rfl ty9 rfl (.inr rfl) (by conv => lhs; whnf) rfl rfl rfl ?_
            refine s_of (st_eqS rfl rfl rfl) rfl rfl rfl rfl ?_
            refine s_pickT rfl rfl (by conv => lhs; whnf) rfl rfl rfl ?_
            refine s_mv (.inr rfl) (by conv => lhs; whnf) rfl rfl rfl ?_
            refine rt_nil ?_
            refine tri_ret ?_
            have e0 := (some1 h); subst e0
            exact endY [] [] (rvC (resTmp rfl) rvN) trivial trivial rfl rfl rfl rfl (.free rfl)
          · replace h := cond_f h b6
            refine s_skip rfl rfl rfl ?_
            refine s_skip rfl rfl rfl ?_
            refine s_skip rfl rfl rfl ?_
            refine s_pickF rfl rfl (v := .sc (.bool false)) rfl rfl rfl rfl ?_
            refine s_mv (.inr rfl) (by conv => lhs; whnf) rfl rfl rfl ?_
            refine rt_nil ?_
            refine tri_ret ?_
            have e0 := (some1 h); subst e0
            exact endY [] [] (rvC (resTmp rfl) rvN) trivial trivial rfl rfl rfl rfl (.free rfl)
        · replace h := cond_f h b5
          refine s_skip rfl rfl rfl ?_
          refine s_skip rfl rfl rfl ?_
          refine s_skip rfl rfl rfl ?_
          refine s_pickF rfl rfl (v := .sc (.bool false)) rfl rfl rfl rfl ?_
          refine s_mv (.inl rfl) (by conv => lhs; whnf) rfl rfl rfl ?_
          refine s_skip rfl rfl rfl ?_
          refine s_skip rfl rfl rfl ?_
          refine s_skip rfl rfl rfl ?_
          refine s_pickF rfl rfl (v := .sc (.bool false)) rfl rfl rfl rfl ?_
          refine s_mv (.inr rfl) (by conv => lhs; whnf) rfl rfl rfl ?_
          refine rt_nil ?_
          refine tri_ret ?_
          have e0 := (some1 h); subst e0
          exact endY [] [] (rvC (resTmp rfl) rvN) trivial trivial rfl rfl rfl rfl (.free rfl)
      · replace h := cond_f h c2
        refine tri_cutI (ι := { p : Bool // i_RecordOk_j1 p0 p = some r0 }) (fun p => inv_i_RecordOk_1 p0 p.1) ?_ ?_
        · skip
          refine tri_seq ?_
          refine tri_region ?_
          refine s_of (st_eqI rfl rfl rfl) rfl rfl rfl rfl ?_
          refine s_mv (.inr rfl) (by conv => lhs; whnf) rfl rfl rfl ?_
          refine rt_nil ?_
          refine tri_cond rfl (fun c7 => ?_) (fun c7 => ?_)
          · replace h := cond_t h c7
            refine tri_skip ?_
            refine Exists.intro ⟨decide (p0.ty = 2), h⟩ ?_
            refine entX [((1, 0), ⟨60, 6, [[.sc (.string p0.name), .sc (.int .i64 p0.ty), .sc (.int .i64 p0.ttl), .sc (.int .i64 p0.n), .sc (.string p0.host), .sc (.string p0.text)]], false, true⟩, some (1, 0))] [] ⟨⟨rfl, _, rfl, rfl, rfl, rfl, id, rowsCv_one (.cons (.free rfl) (.cons (.free rfl) (.cons (.free rfl) (.cons (.free rfl) (.cons (.free rfl) (.cons (.free rfl) .nil)))))), rowsZ_one rfl⟩, trivial⟩ trivial rfl rfl ?_
            exact ⟨(.ptr rfl), (.free rfl), (.free rfl), trivial⟩
          · replace h := cond_f h c7
            refine tri_region ?_
            refine s_of (st_eqI rfl rfl rfl) rfl rfl rfl rfl ?_
            refine s_mv (.inr rfl) (by conv => lhs; whnf) rfl rfl rfl ?_
            refine rt_nil ?_
            refine Exists.intro ⟨decide (p0.ty = 5), h⟩ ?_
            refine entX [((1, 0), ⟨60, 6, [[.sc (.string p0.name), .sc (.int .i64 p0.ty), .sc (.int .i64 p0.ttl), .sc (.int .i64 p0.n), .sc (.string p0.host), .sc (.string p0.text)]], false, true⟩, some (1, 0))] [] ⟨⟨rfl, _, rfl, rfl, rfl, rfl, id, rowsCv_one (.cons (.free rfl) (.cons (.free rfl) (.cons (.free rfl) (.cons (.free rfl) (.cons (.free rfl) (.cons (.free rfl) .nil)))))), rowsZ_one rfl⟩, trivial⟩ trivial rfl rfl ?_
            exact ⟨(.ptr rfl), (.free rfl), (.free rfl), trivial⟩
        · rintro ⟨j1_0, h⟩
          replace h : i_RecordOk_j1 p0 j1_0 = some r0 := h
          unfold i_RecordOk_j1 at h
          show Tri _ _ _ (inv_i_RecordOk_1 p0 j1_0)
          refine tri_cond rfl (fun c7 => ?_) (fun c7 => ?_)
          · replace h := cond_t h c7
            refine tri_seq ?_
            refine tri_region ?_
            refine s_fieldAddr rfl rfl fd60_3 rfl rfl rfl rfl ?_
            refine s_load rfl rfl rfl rfl ty3 rfl (.inr rfl) (by conv => lhs; whnf) rfl rfl rfl ?_
            refine s_of (st_eqI rfl rfl rfl) rfl rfl rfl rfl ?_
            refine s_mv (.inl rfl) (by conv => lhs; whnf) rfl rfl rfl ?_
            refine s_split (t := 36) rfl (fun b8 => ?_) (fun b8 => ?_)
            · replace h := cond_t h b8
              refine s_fieldAddr rfl rfl fd60_4 rfl rfl rfl rfl ?_
              refine s_load rfl rfl rfl rfl ty9 rfl (.inr rfl) (by conv => lhs; whnf) rfl rfl rfl ?_
              refine bnd1_elim h fun x9 q10 h => ?_
              refine s_callN (kb := []) (ns := []) (v := .sc (.bool x9)) rfl rfl cl50 (wi_NameOk p0.host x9 q10) rfl (.cons (.free rfl) .nil) trivial memNil .nil memNil rfl trivial memNil rfl rfl rfl rfl rfl rfl ?_
              refine s_pickT rfl rfl (by conv => lhs; whnf) rfl rfl rfl ?_
              refine s_mv (.inl rfl) (by conv => lhs; whnf) rfl rfl rfl ?_
              refine s_split (t := 41) rfl (fun b11 => ?_) (fun b11 => ?_)
              · replace h := cond_t h b11
                refine s_fieldAddr rfl rfl fd60_5 rfl rfl rfl rfl ?_
                refine s_load rfl rfl rfl rfl ty9 rfl (.inr rfl) (by conv => lhs; whnf) rfl rfl rfl ?_
                refine s_of (st_eqS rfl rfl rfl) rfl rfl rfl rfl ?_
                refine s_pickT rfl rfl (by conv => lhs; whnf) rfl rfl rfl ?_
                refine s_mv (.inr rfl) (by conv => lhs; whnf) rfl rfl rfl ?_
                refine rt_nil ?_
                refine tri_ret ?_
                have e0 := (some1 h); subst e0
                exact endY [] [] (rvC (resTmp rfl) rvN) trivial trivial rfl rfl rfl rfl (.free rfl)
              · replace h := cond_f h b11
                refine s_skip rfl rfl rfl ?_
                refine s_skip rfl rfl rfl ?_
                refine s_skip rfl rfl rfl ?_
                refine s_pickF rfl rfl (v := .sc (.bool false)) rfl rfl rfl rfl ?_
                refine s_mv (.inr rfl) (by conv => lhs; whnf) rfl rfl rfl ?_
                refine rt_nil ?_
                refine tri_ret ?_
                have e0 := (some1 h); subst e0
                exact endY [] [] (rvC (resTmp rfl) rvN) trivial trivial rfl rfl rfl rfl (.free rfl)
            · replace h := cond_f h b8
              refine s_skip rfl rfl rfl ?_
              refine s_skip rfl rfl rfl ?_
              refine s_skip rfl rfl rfl ?_
              refine s_pickF rfl rfl (v := .sc (.bool false)) rfl rfl rfl rfl ?_
              refine s_mv (.inl rfl) (by conv => lhs; whnf) rfl rfl rfl ?_
              refine s_skip rfl rfl rfl ?_
              refine s_skip rfl rfl rfl ?_
              refine s_skip rfl rfl rfl ?_
              refine s_pickF rfl rfl (v := .sc (.bool false)) rfl rfl rfl rfl ?_
              refine s_mv (.inr rfl) (by conv => lhs; whnf) rfl rfl rfl ?_
              refine rt_nil ?_
              refine tri_ret ?_
              have e0 := (some1 h); subst e0
              exact endY [] [] (rvC (resTmp rfl) rvN) trivial trivial rfl rfl rfl rfl (.free rfl)
          · replace h := cond_f h c7
            refine tri_seq ?_
            refine tri_region ?_
            refine s_of (st_eqI rfl rfl rfl) rfl rfl rfl rfl ?_
            refine s_mv (.inr rfl) (by conv => lhs; whnf) rfl rfl rfl ?_
            refine rt_nil ?_
            refine tri_cond rfl (fun c12 => ?_) (fun c12 => ?_)
            · replace h := cond_t h c12
              refine tri_seq ?_
              refine tri_region ?_
              refine s_fieldAddr rfl rfl fd60_3 rfl rfl rfl rfl ?_
              refine s_load rfl rfl rfl rfl ty3 rfl (.inr rfl) (by conv => lhs; whnf) rfl rfl rfl ?_
              refine bnd1_elim h fun x13 q14 h => ?_
              refine s_callN (kb := []) (ns := []) (v := .sc (.bool x13)) rfl rfl cl117 (wi_isTtl p0.n x13 q14) rfl (.cons (.free rfl) .nil) trivial memNil .nil memNil rfl trivial memNil rfl rfl rfl rfl rfl rfl ?_
              refine s_mv (.inl rfl) (by conv => lhs; whnf) rfl rfl rfl ?_
              refine s_split (t := 51) rfl (fun b15 => ?_) (fun b15 => ?_)
              · replace h := cond_t h b15
                refine s_fieldAddr rfl rfl fd60_4 rfl rfl rfl rfl ?_
                refine s_load rfl rfl rfl rfl ty9 rfl (.inr rfl) (by conv => lhs; whnf) rfl rfl rfl ?_
                refine bnd1_elim h fun x16 q17 h => ?_
                refine s_callN (kb := []) (ns := []) (v := .sc (.bool x16)) rfl rfl cl50 (wi_NameOk p0.host x16 q17) rfl (.cons (.free rfl) .nil) trivial memNil .nil memNil rfl trivial memNil rfl rfl rfl rfl rfl rfl ?_
                refine s_pickT rfl rfl (by conv => lhs; whnf) rfl rfl rfl ?_
                refine s_mv (.inl rfl) (by conv => lhs; whnf) rfl rfl rfl ?_
                refine s_split (t := 56) rfl (fun b18 => ?_) (fun b18 => ?_)
                · replace h := cond_t h b18
                  refine s_fieldAddr rfl rfl fd60_5 rfl rfl rfl rfl ?_
                  refine s_load rfl rfl rfl rfl ty9 rfl (.inr rfl) (by conv => lhs; whnf) rfl rfl rfl ?_
                  refine s_of (st_eqS rfl rfl rfl) rfl rfl rfl rfl ?_
                  refine s_pickT rfl rfl (by conv => lhs; whnf) rfl rfl rfl ?_
                  refine s_mv (.inr rfl) (by conv => lhs; whnf) rfl rfl rfl ?_
                  refine rt_nil ?_
                  refine tri_ret ?_
                  have e0 := (some1 h); subst e0
                  exact endY [] [] (rvC (resTmp rfl) rvN) trivial trivial rfl rfl rfl rfl (.free rfl)
                · replace h := cond_f h b18
                  refine s_skip rfl rfl rfl ?_
                  refine s_skip rfl rfl rfl ?_
                  refine s_skip rfl rfl rfl ?_
                  refine s_pickF rfl rfl (v := .sc (.bool false)) rfl rfl rfl rfl ?_
                  refine s_mv (.inr rfl) (by conv => lhs; whnf) rfl rfl rfl ?_
                  refine rt_nil ?_
                  refine tri_ret ?_
                  have e0 := (some1 h); subst e0
                  exact endY [] [] (rvC (resTmp rfl) rvN) trivial trivial rfl rfl rfl rfl (.free rfl)
              · replace h := cond_f h b15
                refine s_skip rfl rfl rfl ?_
                refine s_skip rfl rfl rfl ?_
                refine s_skip rfl rfl rfl ?_
                refine s_pickF rfl rfl (v := .sc (.bool false)) rfl rfl rfl rfl ?_
                refine s_mv (.inl rfl) (by conv => lhs; whnf) rfl rfl rfl ?_
                refine s_skip rfl rfl rfl ?_
                refine s_skip rfl rfl rfl ?_
                refine s_skip rfl rfl rfl ?_
                refine s_pickF rfl rfl (v := .sc (.bool false)) rfl rfl rfl rfl ?_
                refine s_mv (.inr rfl) (by conv => lhs; whnf) rfl rfl rfl ?_
                refine rt_nil ?_
                refine tri_ret ?_
                have e0 := (some1 h); subst e0
                exact endY [] [] (rvC (resTmp rfl) rvN) trivial trivial rfl rfl rfl rfl (.free rfl)
            · replace h := cond_f h c12
              refine tri_seq ?_
              refine tri_region ?_
              refine s_of (st_eqI rfl rfl rfl) rfl rfl rfl rfl ?_
              refine s_mv (.inr rfl) (by conv => lhs; whnf) rfl rfl rfl ?_
              refine rt_nil ?_
              refine tri_cond rfl (fun c19 => ?_) (fun c19 => ?_)
              · replace h := cond_t h c19
                refine tri_seq ?_
                refine tri_region ?_
                refine s_fieldAddr rfl rfl fd60_3 rfl rfl rfl rfl ?_
                refine s_load rfl rfl rfl rfl ty3 rfl (.inr rfl) (by conv => lhs; whnf) rfl rfl rfl ?_
                refine s_of (st_eqI rfl rfl rfl) rfl rfl rfl rfl ?_
                refine s_mv (.inl rfl) (by conv => lhs; whnf) rfl rfl rfl ?_
                refine s_split (t := 66) rfl (fun b20 => ?_) (fun b20 => ?_)
                · replace h := cond_t h b20
                  refine s_fieldAddr rfl rfl fd60_4 rfl rfl rfl rfl ?_
                  refine s_load rfl rfl rfl rfl ty9 rfl (.inr rfl) (by conv => lhs; whnf) rfl rfl rfl ?_
                  refine s_of (st_eqS rfl rfl rfl) rfl rfl rfl rfl ?_
                  refine s_pickT rfl rfl (by conv => lhs; whnf) rfl rfl rfl ?_
                  refine s_mv (.inl rfl) (by conv => lhs; whnf) rfl rfl rfl ?_
                  refine s_split (t := 71) rfl (fun b21 => ?_) (fun b21 => ?_)
                  · replace h := cond_t h b21
                    refine s_fieldAddr rfl rfl fd60_5 rfl rfl rfl rfl ?_
                    refine s_load rfl rfl rfl rfl ty9 rfl (.inr rfl) (by conv => lhs; whnf) rfl rfl rfl ?_
                    refine bnd1_elim h fun x22 q23 h => ?_
                    refine s_callN (kb := []) (ns := []) (v := .sc (.bool x22)) rfl rfl cl119 (wi_isText p0.text x22 q23) rfl (.cons (.free rfl) .nil) trivial memNil .nil memNil rfl trivial memNil rfl rfl rfl rfl rfl rfl ?_
                    refine s_pickT rfl rfl (by conv => lhs; whnf) rfl rfl rfl ?_
                    refine s_mv (.inr rfl) (by conv => lhs; whnf) rfl rfl rfl ?_
                    refine rt_nil ?_
                    refine tri_ret ?_
                    have e0 := (some1 h); subst e0
                    exact endY [] [] (rvC (resTmp rfl) rvN) trivial trivial rfl rfl rfl rfl (.free rfl)
                  · replace h := cond_f h b21
                    refine s_skip rfl rfl rfl ?_
                    refine s_skip rfl rfl rfl ?_
                    refine s_skip rfl rfl rfl ?_
                    refine s_pickF rfl rfl (v := .sc (.bool false)) rfl rfl rfl rfl ?_
                    refine s_mv (.inr rfl) (by conv => lhs; whnf) rfl rfl rfl ?_
                    refine rt_nil ?_
                    refine tri_ret ?_
                    have e0 := (some1 h); subst e0
                    exact endY [] [] (rvC (resTmp rfl) rvN) trivial trivial rfl rfl rfl rfl (.free rfl)
                · replace h := cond_f h b20
                  refine s_skip rfl rfl rfl ?_
                  refine s_skip rfl rfl rfl ?_
                  refine s_skip rfl rfl rfl ?_
                  refine s_pickF rfl rfl (v := .sc (.bool false)) rfl rfl rfl rfl ?_
                  refine s_mv (.inl rfl) (by conv => lhs; whnf) rfl rfl rfl ?_
                  refine s_skip rfl rfl rfl ?_
                  refine s_skip rfl rfl rfl ?_
                  refine s_skip rfl rfl rfl ?_
                  refine s_pickF rfl rfl (v := .sc (.bool false)) rfl rfl rfl rfl ?_
                  refine s_mv (.inr rfl) (by conv => lhs; whnf) rfl rfl rfl ?_
                  refine rt_nil ?_
                  refine tri_ret ?_
                  have e0 := (some1 h); subst e0
                  exact endY [] [] (rvC (resTmp rfl) rvN) trivial trivial rfl rfl rfl rfl (.free rfl)
              · replace h := cond_f h c19
                refine tri_skip ?_
                refine tri_seq ?_
                refine tri_region ?_
                refine s_mv (.inr rfl) (v := .sc (.bool false)) rfl rfl rfl rfl ?_
                refine rt_nil ?_
                refine tri_ret ?_
                have e0 := (some1 h); subst e0
                exact endY [] [] (rvC (resTmp rfl) rvN) trivial trivial rfl rfl rfl rfl (.free rfl)

/- impl.allOk$1 -/

set_option maxRecDepth 4000 in
set_option maxHeartbeats 800000 in
theorem wi_allOk_1 (p0 : Rec) (r0 : Bool) (h : i_allOk_1 p0 = some r0) : Runs Tryd.prog 93 [.agg (recV p0)] [] (.sc (.bool r0)) [] := by
  unfold i_allOk_1 at h
  refine runsR [.tmp 2] Tryd.func93 rfl rfl rfl rfl ?_
  rw [Tryd.ntmps93]
  refine tri_seq ?_
  refine tri_region ?_
  refine s_box rfl rfl rfl rfl rfl rfl rfl ?_
  refine s_mv (.inr rfl) (v := .sc (.bool false)) rfl rfl rfl rfl ?_
  refine rt_nil ?_
  refine tri_seq ?_
  refine tri_region ?_
  refine s_loadR rfl rfl rfl rfl ty60 rfl rfl rfl ?_
  refine bnd1_elim h fun x1 q2 h => ?_
  refine s_callN (kb := []) (ns := []) (v := .sc (.bool x1)) rfl rfl cl94 (wi_RecordOk p0 x1 q2) rfl (.cons (relAgg rfl) .nil) trivial memNil .nil memNil rfl trivial memNil rfl rfl rfl rfl rfl rfl ?_
  refine s_of (st_not rfl rfl) rfl rfl rfl rfl ?_
  refine s_mv (.inr rfl) (by conv => lhs; whnf) rfl rfl rfl ?_
  refine rt_nil ?_
  refine tri_ret ?_
  have e0 := (some1 h); subst e0
  exact endY [] [] (rvC (resTmp rfl) rvN) trivial trivial rfl rfl rfl rfl (.free rfl)

/- impl.allOk -/

set_option maxRecDepth 4000 in
set_option maxHeartbeats 800000 in
theorem wi_allOk (p0 : List Rec) (p1 : Int) (r0 : Bool) (h : i_allOk p0 p1 = some r0) : Runs Tryd.prog 48 [.lst 6 (List.map recV p0), .sc (.int .i64 p1)] [] (.sc (.bool r0)) [] := by
  unfold i_allOk at h
  refine runsR [.tmp 4] Tryd.func48 rfl rfl rfl rfl ?_
  rw [Tryd.ntmps48]
  refine tri_seq ?_
  refine tri_region ?_
  refine s_mv (.inr rfl) (v := .sc (.bool false)) rfl rfl rfl rfl ?_
  refine rt_nil ?_
  refine tri_seq ?_
  refine tri_region ?_
  refine s_mv (.inl rfl) (by conv => lhs; whnf) rfl rfl rfl ?_
  refine s_lenL rfl sl30 rfl rfl rfl rfl ?_
  refine s_mv (.inl rfl) (by conv => lhs; whnf) rfl rfl rfl ?_
  refine s_of (st_leq rfl rfl rfl) rfl rfl rfl rfl ?_
  refine s_mv (.inl rfl) (by conv => lhs; whnf) rfl rfl rfl ?_
  refine s_split (t := 9) rfl (fun b1 => ?_) (fun b1 => ?_)
  · replace h := cond_t h b1
    refine s_mv (.inl rfl) (by conv => lhs; whnf) rfl rfl rfl ?_
    refine bnd1_elim h fun x2 q3 h => ?_
    refine s_callN (kb := []) (ns := []) (v := .sc (.bool x2)) rfl rfl cl92 (wslices_ContainsFunc_Record p0 93 [] rfl cl93 (fun a0 => i_allOk_1 a0) (fun a0 v0 hv => wi_allOk_1 a0 v0 hv) x2 q3) rfl (.cons (.free rfl) (.cons relFn0 .nil)) trivial memNil .nil memNil rfl trivial memNil rfl rfl rfl rfl rfl rfl ?_
    refine s_of (st_not rfl rfl) rfl rfl rfl rfl ?_
    refine s_pickT rfl rfl (by conv => lhs; whnf) rfl rfl rfl ?_
    refine s_mv (.inr rfl) (by conv => lhs; whnf) rfl rfl rfl ?_
    refine rt_nil ?_
    refine tri_ret ?_
    have e0 := (some1 h); subst e0
    exact endY [] [] (rvC (resTmp rfl) rvN) trivial trivial rfl rfl rfl rfl (.free rfl)
  · replace h := cond_f h b1
    refine s_skip rfl rfl rfl ?_
    refine s_skip rfl rfl rfl ?_
    refine s_skip rfl rfl rfl ?_
    refine s_pickF rfl rfl (v := .sc (.bool false)) rfl rfl rfl rfl ?_
    refine s_mv (.inr rfl) (by conv => lhs; whnf) rfl rfl rfl ?_
    refine rt_nil ?_
    refine tri_ret ?_
    have e0 := (some1 h); subst e0
    exact endY [] [] (rvC (resTmp rfl) rvN) trivial trivial rfl rfl rfl rfl (.free rfl)

/- impl.SetOf -/
def inv_i_SetOf_1 (p0 : List Rec) (p1 : ByteArray) (p2 : Int) (v0_0 : List Rec) (v0_1 : Nat) (e0 : Rec) (j1_0 : Bool) : St := mkT 33 [(1, .sc (.string p1)), (2, .sc (.int .i64 p2)), (7, .ref (2007, 0) 0 v0_0.length), (9, .ptr (9, 0) 0 0), (11, .lst 6 (List.map recV p0)), (12, .sc (.int .i64 (p0.length : Int))), (13, .sc (.int .i64 (v0_1 : Int))), (26, .sc (.bool j1_0))] [((2007, 0), some ⟨60, 6, List.map recV v0_0, false, true⟩), ((9, 0), some ⟨60, 6, [[.sc (.string e0.name), .sc (.int .i64 e0.ty), .sc (.int .i64 e0.ttl), .sc (.int .i64 e0.n), .sc (.string e0.host), .sc (.string e0.text)]], false, true⟩)]
def inv_i_SetOf_0 (p0 : List Rec) (p1 : ByteArray) (p2 : Int) (v0_0 : List Rec) (v0_1 : Nat) : St := mkT 33 [(1, .sc (.string p1)), (2, .sc (.int .i64 p2)), (7, .ref (2007, 0) 0 v0_0.length), (11, .lst 6 (List.map recV p0)), (12, .sc (.int .i64 (p0.length : Int))), (13, .sc (.int .i64 (v0_1 : Int)))] [((2007, 0), some ⟨60, 6, List.map recV v0_0, false, true⟩)]
set_option maxRecDepth 4000 in
set_option maxHeartbeats 800000 in
theorem wi_SetOf (p0 : List Rec) (p1 : ByteArray) (p2 : Int) (r0 : List Rec) (h : i_SetOf p0 p1 p2 = some r0) : Runs Tryd.prog 49 [.lst 6 (List.map recV p0), .sc (.string p1), .sc (.int .i64 p2)] [] (.own 60 6 (List.map recV r0)) [] := by
  unfold i_SetOf at h
  refine runsR [.tmp 6] Tryd.func49 rfl rfl rfl rfl ?_
  rw [Tryd.ntmps49]
  refine tri_seq ?_
  refine tri_region ?_
  refine s_mv (.inr rfl) (v := .nils) rfl rfl rfl rfl ?_
  refine rt_nil ?_
  refine tri_seq ?_
  refine tri_region ?_
  refine s_buildSlice (rows' := List.map recV ([] : List Rec)) rfl rfl rfl sl30 zc60 rfl rfl rfl rfl rfl rfl rfl rfl rfl ?_
  refine s_mv (.inr rfl) (by conv => lhs; whnf) rfl rfl rfl ?_
  refine rt_nil ?_
  refine tri_seq ?_
  refine tri_seq ?_
  refine tri_region ?_
  refine s_mv (.inl rfl) (by conv => lhs; whnf) rfl rfl rfl ?_
  refine s_lenL rfl sl30 rfl rfl rfl rfl ?_
  refine s_mv (.inl rfl) (v := .sc (.int .i64 0)) rfl rfl rfl rfl ?_
  refine rt_nil ?_
  refine tri_block ?_
  refine tri_lstM 0 rfl (fun hl0 => ?_)
  refine tri_loop (ι := { p : (List Rec) × (List Rec) × Nat // p0.drop p.2.2 = p.1 ∧ i_SetOf_l0 p1 p2 p.1 p.2.1 p.2.2 = some r0 }) (fun p => inv_i_SetOf_0 p0 p1 p2 p.1.2.1 p.1.2.2) (fun p => p.1.1.length) ⟨(p0, ([] : List Rec), 0), rfl, h⟩ ?_ ?_
  · skip
    refine entX [((2007, 0), ⟨60, 6, List.map recV ([] : List Rec), false, true⟩, some (10, 0))] [] ⟨⟨rfl, _, rfl, rfl, rfl, rfl, id, rowsCv_eq rfl (allFree_map recV_free), rowsZ_map recV_len⟩, trivial⟩ trivial rfl rfl ?_
    exact ⟨(.free rfl), (.free rfl), (.ref rfl), (.free rfl), (.free rfl), (.free rfl), trivial⟩
  · rintro ⟨⟨lrs0, v0_0, v0_1⟩, hd0, h⟩
    replace hd0 : p0.drop v0_1 = lrs0 := hd0
    replace h : i_SetOf_l0 p1 p2 lrs0 v0_0 v0_1 = some r0 := h
    show Tri _ _ _ (inv_i_SetOf_0 p0 p1 p2 v0_0 v0_1)
    refine tri_seq ?_
    refine tri_region ?_
    refine s_of (st_lss rfl rfl rfl) rfl rfl rfl rfl ?_
    refine rt_nil ?_
    refine tri_seq ?_
    refine tri_cond rfl (fun c1 => ?_) (fun c1 => ?_)
    · refine drop_elim hd0 c1 fun e0 rs0 he hx0 hn0 => ?_
      subst he
      rw [i_SetOf_l0] at h
      refine tri_skip ?_
      refine tri_seq ?_
      refine tri_block ?_
      refine tri_seq ?_
      refine tri_region ?_
      refine s_indexF (i := v0_1) rfl rfl rfl sl30 (get_ltM hx0) rfl rfl rfl ?_
      refine s_loadFR rfl rfl (rowG hx0) ty60 rfl rfl rfl ?_
      refine s_alloc rfl rfl rfl zc60 rfl rfl rfl rfl rfl ?_
      refine s_storeB rfl rfl rfl ty60 rfl rfl rfl rfl rfl ?_
      refine rt_nil ?_
      refine tri_cutI (ι := { p : Bool // i_SetOf_j1 v0_0 v0_1 e0 (i_SetOf_l0 p1 p2 rs0) p = some r0 }) (fun p => inv_i_SetOf_1 p0 p1 p2 v0_0 v0_1 e0 p.1) ?_ ?_
      · skip
        refine tri_region ?_
        refine s_fieldAddr rfl rfl fd60_0 rfl rfl rfl rfl ?_
        refine s_load rfl rfl rfl rfl ty9 rfl (.inr rfl) (by conv => lhs; whnf) rfl rfl rfl ?_
        refine s_mv (.inl rfl) (by conv => lhs; whnf) rfl rfl rfl ?_
        refine s_of (st_eqS rfl rfl rfl) rfl rfl rfl rfl ?_
        refine s_mv (.inl rfl) (by conv => lhs; whnf) rfl rfl rfl ?_
        refine s_split (t := 21) rfl (fun b2 => ?_) (fun b2 => ?_)
        · replace h := cond_t h b2
          refine s_fieldAddr rfl rfl fd60_1 rfl rfl rfl rfl ?_
          refine s_load rfl rfl rfl rfl ty3 rfl (.inr rfl) (by conv => lhs; whnf) rfl rfl rfl ?_
          refine s_mv (.inl rfl) (by conv => lhs; whnf) rfl rfl rfl ?_
          refine s_of (st_eqI rfl rfl rfl) rfl rfl rfl rfl ?_
          refine s_pickT rfl rfl (by conv => lhs; whnf) rfl rfl rfl ?_
          refine rt_nil ?_
          refine Exists.intro ⟨decide (e0.ty = p2), h⟩ ?_
          refine entX [((2007, 0), ⟨60, 6, List.map recV v0_0, false, true⟩, some (2007, 0)), ((9, 0), ⟨60, 6, [[.sc (.string e0.name), .sc (.int .i64 e0.ty), .sc (.int .i64 e0.ttl), .sc (.int .i64 e0.n), .sc (.string e0.host), .sc (.string e0.text)]], false, true⟩, some (9, 0))] [] ⟨⟨rfl, _, rfl, rfl, rfl, rfl, id, rowsCv_eq rfl (allFree_map recV_free), rowsZ_map recV_len⟩, ⟨rfl, _, rfl, rfl, rfl, rfl, id, rowsCv_one (.cons (.free rfl) (.cons (.free rfl) (.cons (.free rfl) (.cons (.free rfl) (.cons (.free rfl) (.cons (.free rfl) .nil)))))), rowsZ_one rfl⟩, trivial⟩ trivial rfl rfl ?_
          exact ⟨(.free rfl), (.free rfl), (.ref rfl), (.ptr rfl), (.free rfl), (.free rfl), (.free rfl), (.free rfl), trivial⟩
        · replace h := cond_f h b2
          refine s_skip rfl rfl rfl ?_
          refine s_skip rfl rfl rfl ?_
          refine s_skip rfl rfl rfl ?_
          refine s_skip rfl rfl rfl ?_
          refine s_pickF rfl rfl (v := .sc (.bool false)) rfl rfl rfl rfl ?_
          refine rt_nil ?_
          refine Exists.intro ⟨false, h⟩ ?_
          refine entX [((2007, 0), ⟨60, 6, List.map recV v0_0, false, true⟩, some (2007, 0)), ((9, 0), ⟨60, 6, [[.sc (.string e0.name), .sc (.int .i64 e0.ty), .sc (.int .i64 e0.ttl), .sc (.int .i64 e0.n), .sc (.string e0.host), .sc (.string e0.text)]], false, true⟩, some (9, 0))] [] ⟨⟨rfl, _, rfl, rfl, rfl, rfl, id, rowsCv_eq rfl (allFree_map recV_free), rowsZ_map recV_len⟩, ⟨rfl, _, rfl, rfl, rfl, rfl, id, rowsCv_one (.cons (.free rfl) (.cons (.free rfl) (.cons (.free rfl) (.cons (.free rfl) (.cons (.free rfl) (.cons (.free rfl) .nil)))))), rowsZ_one rfl⟩, trivial⟩ trivial rfl rfl ?_
          exact ⟨(.free rfl), (.free rfl), (.ref rfl), (.ptr rfl), (.free rfl), (.free rfl), (.free rfl), (.free rfl), trivial⟩
      · rintro ⟨j1_0, h⟩
        replace h : i_SetOf_j1 v0_0 v0_1 e0 (i_SetOf_l0 p1 p2 rs0) j1_0 = some r0 := h
        unfold i_SetOf_j1 at h
        show Tri _ _ _ (inv_i_SetOf_1 p0 p1 p2 v0_0 v0_1 e0 j1_0)
        refine tri_cond rfl (fun c2 => ?_) (fun c2 => ?_)
        · replace h := cond_t h c2
          refine tri_region ?_
          refine s_mv (.inl rfl) (by conv => lhs; whnf) rfl rfl rfl ?_
          refine s_loadR rfl rfl rfl rfl ty60 rfl rfl rfl ?_
          refine s_buildSlice (rows' := List.map recV [e0]) rfl rfl rfl sl30 zc60 rfl rfl rfl rfl rfl rfl rfl rfl rfl ?_
          refine grd_elim h fun g3 h => ?_
          refine s_appL rfl rfl rfl sl30 zc60 rfl rfl rfl rfl rfl rfl (src_refL rfl rfl) g3 rfl rfl ?_
          refine s_mv (.inr rfl) (by conv => lhs; whnf) rfl rfl rfl ?_
          refine rt_nil ?_
          refine tri_region ?_
          refine s_inc (a := v0_1) (b := 1) rfl rfl rfl rfl (by have := get_lt hx0; have := hl0; omega) rfl rfl rfl ?_
          refine s_mv (.inl rfl) (by conv => lhs; whnf) rfl rfl rfl ?_
          refine rt_nil ?_
          refine Exists.intro ⟨(rs0, v0_0 ++ [e0], (v0_1 + 1)), hn0, h⟩ (And.intro (Nat.lt_succ_self _) ?_)
          refine entX [((2007, 0), ⟨60, 6, List.map recV (v0_0 ++ [e0]), false, true⟩, some (30, 0))] [] ⟨⟨rfl, _, rfl, rfl, rfl, rfl, id, rowsCv_eq rfl (allFree_map recV_free), rowsZ_map recV_len⟩, trivial⟩ trivial rfl rfl ?_
          exact ⟨(.free rfl), (.free rfl), (.ref rfl), (.free rfl), (.free rfl), (.free rfl), trivial⟩
        · replace h := cond_f h c2
          refine tri_skip ?_
          refine tri_region ?_
          refine s_inc (a := v0_1) (b := 1) rfl rfl rfl rfl (by have := get_lt hx0; have := hl0; omega) rfl rfl rfl ?_
          refine s_mv (.inl rfl) (by conv => lhs; whnf) rfl rfl rfl ?_
          refine rt_nil ?_
          refine Exists.intro ⟨(rs0, v0_0, (v0_1 + 1)), hn0, h⟩ (And.intro (Nat.lt_succ_self _) ?_)
          refine entX [((2007, 0), ⟨60, 6, List.map recV v0_0, false, true⟩, some (2007, 0))] [] ⟨⟨rfl, _, rfl, rfl, rfl, rfl, id, rowsCv_eq rfl (allFree_map recV_free), rowsZ_map recV_len⟩, trivial⟩ trivial rfl rfl ?_
          exact ⟨(.free rfl), (.free rfl), (.ref rfl), (.free rfl), (.free rfl), (.free rfl), trivial⟩
    · have he := drop_f hd0 c1; subst he
      rw [i_SetOf_l0] at h
      refine tri_exit ?_
      refine tri_seq ?_
      refine tri_region ?_
      refine s_mv (.inl rfl) (by conv => lhs; whnf) rfl rfl rfl ?_
      refine s_mv (.inr rfl) (by conv => lhs; whnf) rfl rfl rfl ?_
      refine rt_nil ?_
      refine tri_ret ?_
      have e0 := (some1 h); subst e0
      exact endY (v' := .ref (2000, 0) 0 v0_0.length) [((2000, 0), ⟨60, 6, List.map recV v0_0, false, true⟩, some (2007, 0))] [] (rvC (resTmp rfl) rvN) ⟨⟨rfl, _, rfl, rfl, rfl, rfl, id, rowsCv_eq rfl (allFree_map recV_free), rowsZ_map recV_len⟩, trivial⟩ trivial rfl rfl (by kernel_rfl) (by first | (simp only [V.mat, V.mat1, V.mat0, matL, matT, List.length_map]; done) | (simp only [V.mat, V.mat1, V.mat0, matL, matT, List.length_map]; rfl)) (.ref rfl)

/- impl.EntryOk -/
def inv_i_EntryOk_0 (p0 : MEntry) (j0_0 : Bool) : St := mkT 79 [(1, .ptr (1, 0) 0 0), (15, .sc (.bool j0_0))] [((1, 0), some ⟨32, 6, [[.sc (.string p0.q.name), .sc (.int .i64 p0.q.ty), .sc (.int .i64 p0.kind), .lst 6 (List.map recV p0.l), .sc (.int .i64 p0.rank), .sc (.int .i64 p0.til)]], false, true⟩)]
set_option maxRecDepth 4000 in
set_option maxHeartbeats 800000 in
theorem wi_EntryOk (p0 : MEntry) (r0 : Bool) (h : i_EntryOk p0 = some r0) : Runs Tryd.prog 12 [.agg (mEntryV p0)] [] (.sc (.bool r0)) [] := by
  unfold i_EntryOk at h
  refine runsR [.tmp 2] Tryd.func12 rfl rfl rfl rfl ?_
  rw [Tryd.ntmps12]
  refine tri_seq ?_
  refine tri_region ?_
  refine s_box rfl rfl rfl rfl rfl rfl rfl ?_
  refine s_mv (.inr rfl) (v := .sc (.bool false)) rfl rfl rfl rfl ?_
  refine rt_nil ?_
  refine tri_seq ?_
  refine tri_cutI (ι := { p : Bool // i_EntryOk_j0 p0 p = some r0 }) (fun p => inv_i_EntryOk_0 p0 p.1) ?_ ?_
  · skip
    refine tri_region ?_
    refine s_fieldAddr rfl rfl fd32_3 rfl rfl rfl rfl ?_
    refine s_load rfl rfl rfl rfl ty3 rfl (.inr rfl) (by conv => lhs; whnf) rfl rfl rfl ?_
    refine s_of (st_lss rfl rfl rfl) rfl rfl rfl rfl ?_
    refine s_mv (.inl rfl) (by conv => lhs; whnf) rfl rfl rfl ?_
    refine s_split (t := 6) rfl (fun b1 => ?_) (fun b1 => ?_)
    · replace h := cond_t h b1
      refine s_skip rfl rfl rfl ?_
      refine s_skip rfl rfl rfl ?_
      refine s_skip rfl rfl rfl ?_
      refine s_pickT rfl rfl (v := .sc (.bool true)) rfl rfl rfl rfl ?_
      refine s_mv (.inl rfl) (by conv => lhs; whnf) rfl rfl rfl ?_
      refine s_skip rfl rfl rfl ?_
      refine s_skip rfl rfl rfl ?_
      refine s_skip rfl rfl rfl ?_
      refine s_pickT rfl rfl (v := .sc (.bool true)) rfl rfl rfl rfl ?_
      refine rt_nil ?_
      refine Exists.intro ⟨true, h⟩ ?_
      refine entX [((1, 0), ⟨32, 6, [[.sc (.string p0.q.name), .sc (.int .i64 p0.q.ty), .sc (.int .i64 p0.kind), .lst 6 (List.map recV p0.l), .sc (.int .i64 p0.rank), .sc (.int .i64 p0.til)]], false, true⟩, some (1, 0))] [] ⟨⟨rfl, _, rfl, rfl, rfl, rfl, id, rowsCv_one (.cons (.free rfl) (.cons (.free rfl) (.cons (.free rfl) (.cons (.free rfl) (.cons (.free rfl) (.cons (.free rfl) .nil)))))), rowsZ_one rfl⟩, trivial⟩ trivial rfl rfl ?_
      exact ⟨(.ptr rfl), (.free rfl), trivial⟩
    · replace h := cond_f h b1
      refine s_fieldAddr rfl rfl fd32_3 rfl rfl rfl rfl ?_
      refine s_load rfl rfl rfl rfl ty3 rfl (.inr rfl) (by conv => lhs; whnf) rfl rfl rfl ?_
      refine s_of (st_gtr rfl rfl rfl) rfl rfl rfl rfl ?_
      refine s_pickF rfl rfl (by conv => lhs; whnf) rfl rfl rfl ?_
      refine s_mv (.inl rfl) (by conv => lhs; whnf) rfl rfl rfl ?_
      refine s_split (t := 11) rfl (fun b2 => ?_) (fun b2 => ?_)
      · replace h := cond_t h b2
        refine s_skip rfl rfl rfl ?_
        refine s_skip rfl rfl rfl ?_
        refine s_skip rfl rfl rfl ?_
        refine s_pickT rfl rfl (v := .sc (.bool true)) rfl rfl rfl rfl ?_
        refine rt_nil ?_
        refine Exists.intro ⟨true, h⟩ ?_
        refine entX [((1, 0), ⟨32, 6, [[.sc (.string p0.q.name), .sc (.int .i64 p0.q.ty), .sc (.int .i64 p0.kind), .lst 6 (List.map recV p0.l), .sc (.int .i64 p0.rank), .sc (.int .i64 p0.til)]], false, true⟩, some (1, 0))] [] ⟨⟨rfl, _, rfl, rfl, rfl, rfl, id, rowsCv_one (.cons (.free rfl) (.cons (.free rfl) (.cons (.free rfl) (.cons (.free rfl) (.cons (.free rfl) (.cons (.free rfl) .nil)))))), rowsZ_one rfl⟩, trivial⟩ trivial rfl rfl ?_
        exact ⟨(.ptr rfl), (.free rfl), trivial⟩
      · replace h := cond_f h b2
        refine s_fieldAddr rfl rfl fd32_4 rfl rfl rfl rfl ?_
        refine s_load rfl rfl rfl rfl ty3 rfl (.inr rfl) (by conv => lhs; whnf) rfl rfl rfl ?_
        refine s_of (st_lss rfl rfl rfl) rfl rfl rfl rfl ?_
        refine s_pickF rfl rfl (by conv => lhs; whnf) rfl rfl rfl ?_
        refine rt_nil ?_
        refine Exists.intro ⟨decide (p0.til < 0), h⟩ ?_
        refine entX [((1, 0), ⟨32, 6, [[.sc (.string p0.q.name), .sc (.int .i64 p0.q.ty), .sc (.int .i64 p0.kind), .lst 6 (List.map recV p0.l), .sc (.int .i64 p0.rank), .sc (.int .i64 p0.til)]], false, true⟩, some (1, 0))] [] ⟨⟨rfl, _, rfl, rfl, rfl, rfl, id, rowsCv_one (.cons (.free rfl) (.cons (.free rfl) (.cons (.free rfl) (.cons (.free rfl) (.cons (.free rfl) (.cons (.free rfl) .nil)))))), rowsZ_one rfl⟩, trivial⟩ trivial rfl rfl ?_
        exact ⟨(.ptr rfl), (.free rfl), trivial⟩
  · rintro ⟨j0_0, h⟩
    replace h : i_EntryOk_j0 p0 j0_0 = some r0 := h
    unfold i_EntryOk_j0 at h
    show Tri _ _ _ (inv_i_EntryOk_0 p0 j0_0)
    refine tri_cond rfl (fun c1 => ?_) (fun c1 => ?_)
    · replace h := cond_t h c1
      refine tri_seq ?_
      refine tri_region ?_
      refine s_mv (.inr rfl) (v := .sc (.bool false)) rfl rfl rfl rfl ?_
      refine rt_nil ?_
      refine tri_ret ?_
      have e0 := (some1 h); subst e0
      exact endY [] [] (rvC (resTmp rfl) rvN) trivial trivial rfl rfl rfl rfl (.free rfl)
    · replace h := cond_f h c1
      refine tri_skip ?_
      refine tri_seq ?_
      refine tri_seq ?_
      refine tri_region ?_
      refine s_fieldAddr rfl rfl fd32_1 rfl rfl rfl rfl ?_
      refine s_load rfl rfl rfl rfl ty3 rfl (.inr rfl) (by conv => lhs; whnf) rfl rfl rfl ?_
      refine rt_nil ?_
      refine tri_block ?_
      refine tri_seq ?_
      refine tri_region ?_
      refine s_of (st_eqI rfl rfl rfl) rfl rfl rfl rfl ?_
      refine s_mv (.inr rfl) (by conv => lhs; whnf) rfl rfl rfl ?_
      refine rt_nil ?_
      refine tri_cond rfl (fun c2 => ?_) (fun c2 => ?_)
      · replace h := cond_t h c2
        refine tri_seq ?_
        refine tri_draw mixed ?_
        refine s_fieldAddr rfl rfl fd32_0 rfl rfl rfl rfl ?_
        refine s_load (v := .agg (questV p0.q)) rfl rfl rfl rfl ty29 rfl (.inl rfl) rfl rfl rfl rfl ?_
        refine bnd1_elim h fun x3 q4 h => ?_
        refine s_callN (kb := []) (ns := []) (v := .sc (.bool x3)) rfl rfl cl47 (wi_QuestOk p0.q x3 q4) rfl (.cons (relAgg rfl) .nil) trivial memNil .nil memNil rfl trivial memNil rfl rfl rfl rfl rfl rfl ?_
        refine s_mv (.inl rfl) (by conv => lhs; whnf) rfl rfl rfl ?_
        refine s_split (t := 23) rfl (fun b5 => ?_) (fun b5 => ?_)
        · replace h := cond_t h b5
          refine s_fieldAddr rfl rfl fd32_2 rfl rfl rfl rfl ?_
          refine s_load rfl rfl rfl rfl ty30 rfl (.inr rfl) (by conv => lhs; whnf) rfl rfl rfl ?_
          refine s_lenL rfl sl30 rfl rfl rfl rfl ?_
          refine s_of (st_gtr rfl rfl rfl) rfl rfl rfl rfl ?_
          refine s_pickT rfl rfl (by conv => lhs; whnf) rfl rfl rfl ?_
          refine s_mv (.inl rfl) (by conv => lhs; whnf) rfl rfl rfl ?_
          refine s_split (t := 29) rfl (fun b6 => ?_) (fun b6 => ?_)
          · replace h := cond_t h b6
            refine s_fieldAddr rfl rfl fd32_2 rfl rfl rfl rfl ?_
            refine s_load rfl rfl rfl rfl ty30 rfl (.inr rfl) (by conv => lhs; whnf) rfl rfl rfl ?_
            refine bnd1_elim h fun x7 q8 h => ?_
            refine s_callN (kb := []) (ns := []) (v := .sc (.bool x7)) rfl rfl cl48 (wi_allOk p0.l 8 x7 q8) rfl (.cons (.free rfl) (.cons (.free rfl) .nil)) trivial memNil .nil memNil rfl trivial memNil rfl rfl rfl rfl rfl rfl ?_
            refine s_pickT rfl rfl (by conv => lhs; whnf) rfl rfl rfl ?_
            refine s_mv (.inl rfl) (by conv => lhs; whnf) rfl rfl rfl ?_
            refine s_split (t := 34) rfl (fun b9 => ?_) (fun b9 => ?_)
            · replace h := cond_t h b9
              refine s_fieldAddr rfl rfl fd32_2 rfl rfl rfl rfl ?_
              refine s_load rfl rfl rfl rfl ty30 rfl (.inr rfl) (by conv => lhs; whnf) rfl rfl rfl ?_
              refine s_fieldAddr rfl rfl fd32_0 rfl rfl rfl rfl ?_
              refine s_fieldAddr rfl rfl fd29_0 rfl rfl rfl rfl ?_
              refine s_load rfl rfl rfl rfl ty9 rfl (.inr rfl) (by conv => lhs; whnf) rfl rfl rfl ?_
              refine s_fieldAddr rfl rfl fd32_0 rfl rfl rfl rfl ?_
              refine s_fieldAddr rfl rfl fd29_1 rfl rfl rfl rfl ?_
              refine s_load rfl rfl rfl rfl ty3 rfl (.inr rfl) (by conv => lhs; whnf) rfl rfl rfl ?_
              refine bnd1_elim h fun x10 q11 h => ?_
              refine s_callN (kb := []) (ns := []) (v := .ref (43, 0) 0 x10.length) rfl rfl cl49 (wi_SetOf p0.l p0.q.name p0.q.ty x10 q11) rfl (.cons (.free rfl) (.cons (.free rfl) (.cons (.free rfl) .nil))) trivial memNil .nil memNil rfl ⟨(allSc_map recV_sc), trivial⟩ memNil rfl (by first | (simp only [V.mat, V.mat1, V.mat0, matL, matT, List.length_map]; done) | (simp only [V.mat, V.mat1, V.mat0, matL, matT, List.length_map]; rfl)) rfl rfl rfl rfl ?_
              refine s_len (m := x10.length) rfl sl30 rfl rfl rfl rfl ?_
              refine s_fieldAddr rfl rfl fd32_2 rfl rfl rfl rfl ?_
              refine s_load rfl rfl rfl rfl ty30 rfl (.inr rfl) (by conv => lhs; whnf) rfl rfl rfl ?_
              refine s_lenL rfl sl30 rfl rfl rfl rfl ?_
              refine s_of (st_eqI rfl rfl rfl) rfl rfl rfl rfl ?_
              refine s_pickT rfl rfl (by conv => lhs; whnf) rfl rfl rfl ?_
              refine s_mv (.inr rfl) (by conv => lhs; whnf) rfl rfl rfl ?_
              refine rt_nil ⟨by kernel_rfl, ?_⟩
              refine tri_ret ?_
              have e0 := (some1 h); subst e0
              exact endY [] [] (rvC (resTmp rfl) rvN) trivial trivial rfl rfl rfl rfl (.free rfl)
            · replace h := cond_f h b9
              refine s_skip rfl rfl rfl ?_
              refine s_skip rfl rfl rfl ?_
              refine s_skip rfl rfl rfl ?_
              refine s_skip rfl rfl rfl ?_
              refine s_skip rfl rfl rfl ?_
              refine s_skip rfl rfl rfl ?_
              refine s_skip rfl rfl rfl ?_
              refine s_skip rfl rfl rfl ?_
              refine s_skip rfl rfl rfl ?_
              refine s_skip rfl rfl rfl ?_
              refine s_skip rfl rfl rfl ?_
              refine s_skip rfl rfl rfl ?_
              refine s_skip rfl rfl rfl ?_
              refine s_skip rfl rfl rfl ?_
              refine s_pickF rfl rfl (v := .sc (.bool false)) rfl rfl rfl rfl ?_
              refine s_mv (.inr rfl) (by conv => lhs; whnf) rfl rfl rfl ?_
              refine rt_nil ⟨by kernel_rfl, ?_⟩
              refine tri_ret ?_
              have e0 := (some1 h); subst e0
              exact endY [] [] (rvC (resTmp rfl) rvN) trivial trivial rfl rfl rfl rfl (.free rfl)
          · replace h := cond_f h b6
            refine s_skip rfl rfl rfl ?_
            refine s_skip rfl rfl rfl ?_
            refine s_skip rfl rfl rfl ?_
            refine s_pickF rfl rfl (v := .sc (.bool false)) rfl rfl rfl rfl ?_
            refine s_mv (.inl rfl) (by conv => lhs; whnf) rfl rfl rfl ?_
            refine s_skip rfl rfl rfl ?_
            refine s_skip rfl rfl rfl ?_
            refine s_skip rfl rfl rfl ?_
            refine s_skip rfl rfl rfl ?_
            refine s_skip rfl rfl rfl ?_
            refine s_skip rfl rfl rfl ?_
            refine s_skip rfl rfl rfl ?_
            refine s_skip rfl rfl rfl ?_
            refine s_skip rfl rfl rfl ?_
            refine s_skip rfl rfl rfl ?_
            refine s_skip rfl rfl rfl ?_
            refine s_skip rfl rfl rfl ?_
            refine s_skip rfl rfl rfl ?_
            refine s_skip rfl rfl rfl ?_
            refine s_pickF rfl rfl (v := .sc (.bool false)) rfl rfl rfl rfl ?_
            refine s_mv (.inr rfl) (by conv => lhs; whnf) rfl rfl rfl ?_
            refine rt_nil ⟨by kernel_rfl, ?_⟩
            refine tri_ret ?_
            have e0 := (some1 h); subst e0
            exact endY [] [] (rvC (resTmp rfl) rvN) trivial trivial rfl rfl rfl rfl (.free rfl)
        · replace h := cond_f h b5
          refine s_skip rfl rfl rfl ?_
          refine s_skip rfl rfl rfl ?_
          refine s_skip rfl rfl rfl ?_
          refine s_skip rfl rfl rfl ?_
          refine s_pickF rfl rfl (v := .sc (.bool false)) rfl rfl rfl rfl ?_
          refine s_mv (.inl rfl) (by conv => lhs; whnf) rfl rfl rfl ?_
          refine s_skip rfl rfl rfl ?_
          refine s_skip rfl rfl rfl ?_
          refine s_skip rfl rfl rfl ?_
          refine s_pickF rfl rfl (v := .sc (.bool false)) rfl rfl rfl rfl ?_
          refine s_mv (.inl rfl) (by conv => lhs; whnf) rfl rfl rfl ?_
          refine s_skip rfl rfl rfl ?_
          refine s_skip rfl rfl rfl ?_
          refine s_skip rfl rfl rfl ?_
          refine s_skip rfl rfl rfl ?_
          refine s_skip rfl rfl rfl ?_
          refine s_skip rfl rfl rfl ?_
          refine s_skip rfl rfl rfl ?_
          refine s_skip rfl rfl rfl ?_
          refine s_skip rfl rfl rfl ?_
          refine s_skip rfl rfl rfl ?_
          refine s_skip rfl rfl rfl ?_
          refine s_skip rfl rfl rfl ?_
          refine s_skip rfl rfl rfl ?_
          refine s_skip rfl rfl rfl ?_
          refine s_pickF rfl rfl (v := .sc (.bool false)) rfl rfl rfl rfl ?_
          refine s_mv (.inr rfl) (by conv => lhs; whnf) rfl rfl rfl ?_
          refine rt_nil ⟨by kernel_rfl, ?_⟩
          refine tri_ret ?_
          have e0 := (some1 h); subst e0
          exact endY [] [] (rvC (resTmp rfl) rvN) trivial trivial rfl rfl rfl rfl (.free rfl)
      · replace h := cond_f h c2
        refine tri_seq ?_
        refine tri_region ?_
        refine s_of (st_eqI rfl rfl rfl) rfl rfl rfl rfl ?_
        refine s_mv (.inr rfl) (by conv => lhs; whnf) rfl rfl rfl ?_
        refine rt_nil ?_
        refine tri_cond rfl (fun c12 => ?_) (fun c12 => ?_)
        · replace h := cond_t h c12
          refine tri_seq ?_
          refine tri_region ?_
          refine s_fieldAddr rfl rfl fd32_0 rfl rfl rfl rfl ?_
          refine s_load (v := .agg (questV p0.q)) rfl rfl rfl rfl ty29 rfl (.inl rfl) rfl rfl rfl rfl ?_
          refine bnd1_elim h fun x13 q14 h => ?_
          refine s_callN (kb := []) (ns := []) (v := .sc (.bool x13)) rfl rfl cl47 (wi_QuestOk p0.q x13 q14) rfl (.cons (relAgg rfl) .nil) trivial memNil .nil memNil rfl trivial memNil rfl rfl rfl rfl rfl rfl ?_
          refine s_mv (.inl rfl) (by conv => lhs; whnf) rfl rfl rfl ?_
          refine s_split (t := 55) rfl (fun b15 => ?_) (fun b15 => ?_)
          · replace h := cond_t h b15
            refine s_fieldAddr rfl rfl fd32_2 rfl rfl rfl rfl ?_
            refine s_load rfl rfl rfl rfl ty30 rfl (.inr rfl) (by conv => lhs; whnf) rfl rfl rfl ?_
            refine s_lenL rfl sl30 rfl rfl rfl rfl ?_
            refine s_of (st_eqI rfl rfl rfl) rfl rfl rfl rfl ?_
            refine s_pickT rfl rfl (by conv => lhs; whnf) rfl rfl rfl ?_
            refine s_mv (.inr rfl) (by conv => lhs; whnf) rfl rfl rfl ?_
            refine rt_nil ?_
            refine tri_ret ?_
            have e0 := (some1 h); subst e0
            exact endY [] [] (rvC (resTmp rfl) rvN) trivial trivial rfl rfl rfl rfl (.free rfl)
          · replace h := cond_f h b15
            refine s_skip rfl rfl rfl ?_
            refine s_skip rfl rfl rfl ?_
            refine s_skip rfl rfl rfl ?_
            refine s_skip rfl rfl rfl ?_
            refine s_pickF rfl rfl (v := .sc (.bool false)) rfl rfl rfl rfl ?_
            refine s_mv (.inr rfl) (by conv => lhs; whnf) rfl rfl rfl ?_
            refine rt_nil ?_
            refine tri_ret ?_
            have e0 := (some1 h); subst e0
            exact endY [] [] (rvC (resTmp rfl) rvN) trivial trivial rfl rfl rfl rfl (.free rfl)
        · replace h := cond_f h c12
          refine tri_seq ?_
          refine tri_region ?_
          refine s_of (st_eqI rfl rfl rfl) rfl rfl rfl rfl ?_
          refine s_mv (.inr rfl) (by conv => lhs; whnf) rfl rfl rfl ?_
          refine rt_nil ?_
          refine tri_cond rfl (fun c16 => ?_) (fun c16 => ?_)
          · replace h := cond_t h c16
            refine tri_seq ?_
            refine tri_region ?_
            refine s_fieldAddr rfl rfl fd32_0 rfl rfl rfl rfl ?_
            refine s_fieldAddr rfl rfl fd29_0 rfl rfl rfl rfl ?_
            refine s_load rfl rfl rfl rfl ty9 rfl (.inr rfl) (by conv => lhs; whnf) rfl rfl rfl ?_
            refine bnd1_elim h fun x17 q18 h => ?_
            refine s_callN (kb := []) (ns := []) (v := .sc (.bool x17)) rfl rfl cl50 (wi_NameOk p0.q.name x17 q18) rfl (.cons (.free rfl) .nil) trivial memNil .nil memNil rfl trivial memNil rfl rfl rfl rfl rfl rfl ?_
            refine s_mv (.inl rfl) (by conv => lhs; whnf) rfl rfl rfl ?_
            refine s_split (t := 67) rfl (fun b19 => ?_) (fun b19 => ?_)
            · replace h := cond_t h b19
              refine s_fieldAddr rfl rfl fd32_0 rfl rfl rfl rfl ?_
              refine s_fieldAddr rfl rfl fd29_1 rfl rfl rfl rfl ?_
              refine s_load rfl rfl rfl rfl ty3 rfl (.inr rfl) (by conv => lhs; whnf) rfl rfl rfl ?_
              refine s_of (st_eqI rfl rfl rfl) rfl rfl rfl rfl ?_
              refine s_pickT rfl rfl (by conv => lhs; whnf) rfl rfl rfl ?_
              refine s_mv (.inl rfl) (by conv => lhs; whnf) rfl rfl rfl ?_
              refine s_split (t := 73) rfl (fun b20 => ?_) (fun b20 => ?_)
              · replace h := cond_t h b20
                refine s_fieldAddr rfl rfl fd32_2 rfl rfl rfl rfl ?_
                refine s_load rfl rfl rfl rfl ty30 rfl (.inr rfl) (by conv => lhs; whnf) rfl rfl rfl ?_
                refine s_lenL rfl sl30 rfl rfl rfl rfl ?_
                refine s_of (st_eqI rfl rfl rfl) rfl rfl rfl rfl ?_
                refine s_pickT rfl rfl (by conv => lhs; whnf) rfl rfl rfl ?_
                refine s_mv (.inr rfl) (by conv => lhs; whnf) rfl rfl rfl ?_
                refine rt_nil ?_
                refine tri_ret ?_
                have e0 := (some1 h); subst e0
                exact endY [] [] (rvC (resTmp rfl) rvN) trivial trivial rfl rfl rfl rfl (.free rfl)
              · replace h := cond_f h b20
                refine s_skip rfl rfl rfl ?_
                refine s_skip rfl rfl rfl ?_
                refine s_skip rfl rfl rfl ?_
                refine s_skip rfl rfl rfl ?_
                refine s_pickF rfl rfl (v := .sc (.bool false)) rfl rfl rfl rfl ?_
                refine s_mv (.inr rfl) (by conv => lhs; whnf) rfl rfl rfl ?_
                refine rt_nil ?_
                refine tri_ret ?_
                have e0 := (some1 h); subst e0
                exact endY [] [] (rvC (resTmp rfl) rvN) trivial trivial rfl rfl rfl rfl (.free rfl)
            · replace h := cond_f h b19
              refine s_skip rfl rfl rfl ?_
              refine s_skip rfl rfl rfl ?_
              refine s_skip rfl rfl rfl ?_
              refine s_skip rfl rfl rfl ?_
              refine s_pickF rfl rfl (v := .sc (.bool false)) rfl rfl rfl rfl ?_
              refine s_mv (.inl rfl) (by conv => lhs; whnf) rfl rfl rfl ?_
              refine s_skip rfl rfl rfl ?_
              refine s_skip rfl rfl rfl ?_
              refine s_skip rfl rfl rfl ?_
              refine s_skip rfl rfl rfl ?_
              refine s_pickF rfl rfl (v := .sc (.bool false)) rfl rfl rfl rfl ?_
              refine s_mv (.inr rfl) (by conv => lhs; whnf) rfl rfl rfl ?_
              refine rt_nil ?_
              refine tri_ret ?_
              have e0 := (some1 h); subst e0
              exact endY [] [] (rvC (resTmp rfl) rvN) trivial trivial rfl rfl rfl rfl (.free rfl)
          · replace h := cond_f h c16
            refine tri_skip ?_
            refine tri_seq ?_
            refine tri_region ?_
            refine s_mv (.inr rfl) (v := .sc (.bool false)) rfl rfl rfl rfl ?_
            refine rt_nil ?_
            refine tri_ret ?_
            have e0 := (some1 h); subst e0
            exact endY [] [] (rvC (resTmp rfl) rvN) trivial trivial rfl rfl rfl rfl (.free rfl)

/- impl.Entry] -/
def inv_slices_IndexFunc_Entry_0 (p0 : List MEntry) (fi1 : FuncId) (cp1 : List V) (v0_0 : Nat) : St := mkT 19 [(0, .lst 6 (List.map mEntryV p0)), (1, .fn fi1 cp1), (7, .sc (.int .i64 (p0.length : Int))), (8, .sc (.int .i64 (v0_0 : Int)))] []
set_option maxRecDepth 4000 in
set_option maxHeartbeats 800000 in
theorem wslices_IndexFunc_Entry (p0 : List MEntry) (fi1 : FuncId) (cp1 : List V) (hf1 : cp1.all (·.free) = true) (hb1 : callable Tryd.prog fi1 = true) (p1 : MEntry → Option Bool) (hg1 : ∀ (z0 : MEntry) v, p1 z0 = some v → Runs Tryd.prog fi1 ([.agg (mEntryV z0)] ++ cp1) [] (.sc (.bool v)) []) (r0 : Int) (h : slices_IndexFunc_Entry p0 p1 = some r0) : Runs Tryd.prog 75 [.lst 6 (List.map mEntryV p0), .fn fi1 cp1] [] (.sc (.int .i64 r0)) [] := by
  unfold slices_IndexFunc_Entry at h
  refine runsR [.tmp 4] Tryd.func75 rfl rfl rfl rfl ?_
  rw [Tryd.ntmps75]
  refine tri_seq ?_
  refine tri_region ?_
  refine s_mv (.inr rfl) (v := .sc (.int .i64 0)) rfl rfl rfl rfl ?_
  refine rt_nil ?_
  refine tri_seq ?_
  refine tri_seq ?_
  refine tri_region ?_
  refine s_mv (.inl rfl) (by conv => lhs; whnf) rfl rfl rfl ?_
  refine s_lenL rfl sl41 rfl rfl rfl rfl ?_
  refine s_mv (.inl rfl) (v := .sc (.int .i64 0)) rfl rfl rfl rfl ?_
  refine rt_nil ?_
  refine tri_block ?_
  refine tri_lstM 0 rfl (fun hl0 => ?_)
  refine tri_loop (ι := { p : (List MEntry) × Nat // p0.drop p.2 = p.1 ∧ slices_IndexFunc_Entry_l0 p1 p.1 p.2 = some r0 }) (fun p => inv_slices_IndexFunc_Entry_0 p0 fi1 cp1 p.1.2) (fun p => p.1.1.length) ⟨(p0, 0), rfl, h⟩ ?_ ?_
  · skip
    refine entX [] [] trivial trivial rfl rfl ?_
    exact ⟨(.free rfl), (cvFn hf1), (.free rfl), (.free rfl), trivial⟩
  · rintro ⟨⟨lrs0, v0_0⟩, hd0, h⟩
    replace hd0 : p0.drop v0_0 = lrs0 := hd0
    replace h : slices_IndexFunc_Entry_l0 p1 lrs0 v0_0 = some r0 := h
    show Tri _ _ _ (inv_slices_IndexFunc_Entry_0 p0 fi1 cp1 v0_0)
    refine tri_seq ?_
    refine tri_region ?_
    refine s_of (st_lss rfl rfl rfl) rfl rfl rfl rfl ?_
    refine rt_nil ?_
    refine tri_seq ?_
    refine tri_cond rfl (fun c1 => ?_) (fun c1 => ?_)
    · refine drop_elim hd0 c1 fun e0 rs0 he hx0 hn0 => ?_
      subst he
      rw [slices_IndexFunc_Entry_l0] at h
      refine tri_skip ?_
      refine tri_seq ?_
      refine tri_block ?_
      refine tri_seq ?_
      refine tri_region ?_
      refine s_mv (.inl rfl) (by conv => lhs; whnf) rfl rfl rfl ?_
      refine s_mv (.inr rfl) (by conv => lhs; whnf) rfl rfl rfl ?_
      refine rt_nil ?_
      refine tri_seq ?_
      refine tri_region ?_
      refine s_mv (.inl rfl) (by conv => lhs; whnf) rfl rfl rfl ?_
      refine s_mv (.inl rfl) (by conv => lhs; whnf) rfl rfl rfl ?_
      refine s_mv (.inl rfl) (by conv => lhs; whnf) rfl rfl rfl ?_
      refine s_indexF (i := v0_0) rfl rfl rfl sl41 (get_ltM hx0) rfl rfl rfl ?_
      refine s_loadFR rfl rfl (rowG hx0) ty32 rfl rfl rfl ?_
      refine bnd1_elim h fun x2 q3 h => ?_
      refine s_callN (kb := []) (ns := []) (v := .sc (.bool x2)) rfl rfl hb1 (hg1 e0 x2 q3) rfl (.cons (relAgg rfl) (argsFree hf1)) trivial memNil .nil memNil rfl trivial memNil rfl rfl rfl rfl rfl rfl ?_
      refine rt_nil ?_
      refine tri_cond rfl (fun c4 => ?_) (fun c4 => ?_)
      · replace h := cond_t h c4
        refine tri_seq ?_
        refine tri_region ?_
        refine s_mv (.inl rfl) (by conv => lhs; whnf) rfl rfl rfl ?_
        refine s_mv (.inr rfl) (by conv => lhs; whnf) rfl rfl rfl ?_
        refine rt_nil ?_
        refine tri_ret ?_
        have e0 := (some1 h); subst e0
        exact endY [] [] (rvC (resTmp rfl) rvN) trivial trivial rfl rfl rfl rfl (.free rfl)
      · replace h := cond_f h c4
        refine tri_skip ?_
        refine tri_region ?_
        refine s_inc (a := v0_0) (b := 1) rfl rfl rfl rfl (by have := get_lt hx0; have := hl0; omega) rfl rfl rfl ?_
        refine s_mv (.inl rfl) (by conv => lhs; whnf) rfl rfl rfl ?_
        refine rt_nil ?_
        refine Exists.intro ⟨(rs0, (v0_0 + 1)), hn0, h⟩ (And.intro (Nat.lt_succ_self _) ?_)
        refine entX [] [] trivial trivial rfl rfl ?_
        exact ⟨(.free rfl), (cvFn hf1), (.free rfl), (.free rfl), trivial⟩
    · have he := drop_f hd0 c1; subst he
      rw [slices_IndexFunc_Entry_l0] at h
      refine tri_exit ?_
      refine tri_seq ?_
      refine tri_region ?_
      refine s_mv (.inr rfl) (v := .sc (.int .i64 (-1))) rfl rfl rfl rfl ?_
      refine rt_nil ?_
      refine tri_ret ?_
      have e0 := (some1 h); subst e0
      exact endY [] [] (rvC (resTmp rfl) rvN) trivial trivial rfl rfl rfl rfl (.free rfl)

/- impl.Keep$1 -/

set_option maxRecDepth 4000 in
set_option maxHeartbeats 800000 in
theorem wi_Keep_1 (p0 : MEntry) (p1 : MEntry) (r0 : Bool) (h : i_Keep_1 p0 p1 = some r0) : Runs Tryd.prog 76 [.agg (mEntryV p0), .lptr 6 [[.sc (.string p1.q.name), .sc (.int .i64 p1.q.ty), .sc (.int .i64 p1.kind), .lst 6 (List.map recV p1.l), .sc (.int .i64 p1.rank), .sc (.int .i64 p1.til)]] 0 0] [] (.sc (.bool r0)) [] := by
  unfold i_Keep_1 at h
  refine runsR [.tmp 3] Tryd.func76 rfl rfl rfl rfl ?_
  rw [Tryd.ntmps76]
  refine tri_seq ?_
  refine tri_region ?_
  refine s_box rfl rfl rfl rfl rfl rfl rfl ?_
  refine s_mv (.inr rfl) (v := .sc (.bool false)) rfl rfl rfl rfl ?_
  refine rt_nil ?_
  refine tri_seq ?_
  refine tri_region ?_
  refine s_fieldAddr rfl rfl fd32_0 rfl rfl rfl rfl ?_
  refine s_load (v := .agg (questV p0.q)) rfl rfl rfl rfl ty29 rfl (.inl rfl) rfl rfl rfl rfl ?_
  refine s_fieldAddrF rfl rfl fd32_0 rfl rfl rfl rfl ?_
  refine s_loadF (v := .agg (questV p1.q)) rfl rfl rfl ty29 rfl (.inl rfl) rfl rfl rfl rfl ?_
  refine s_eqStruct (r' := (decide (p0.q.name = p1.q.name) && (decide (p0.q.ty = p1.q.ty) && true))) rfl rfl rfl fk29 rfl rfl rfl rfl rfl ?_
  refine s_mv (.inr rfl) (by conv => lhs; whnf) rfl rfl rfl ?_
  refine rt_nil ?_
  refine tri_ret ?_
  have e0 := (some1 h); subst e0
  exact endY [] [] (rvC (resTmp rfl) rvN) trivial trivial rfl rfl rfl rfl (.free rfl)

/- impl.Entry] -/

set_option maxRecDepth 4000 in
set_option maxHeartbeats 800000 in
theorem wslices_Delete_Entry (p0 : List MEntry) (p1 : Int) (p2 : Int) (r0 : List MEntry) (r1 : List MEntry) (h : slices_Delete_Entry p0 p1 p2 = some (r0, r1)) : RunsG Tryd.prog 108 [.ref (1000, 0) 0 p0.length, .sc (.int .i64 p1), .sc (.int .i64 p2)] [⟨32, 6, List.map mEntryV p0, false, false⟩] (.ref (1000, 0) 0 r1.length) [] [⟨32, 6, List.map mEntryV r1, false, false⟩] := by
  unfold slices_Delete_Entry at h
  refine runsG [.tmp 6] Tryd.func108 rfl rfl rfl rfl ?_
  rw [Tryd.ntmps108]
  refine tri_seq ?_
  refine tri_region ?_
  refine s_mv (.inr rfl) (v := .nils) rfl rfl rfl rfl ?_
  refine rt_nil ?_
  refine tri_seq ?_
  refine tri_region ?_
  refine s_mv (.inl rfl) (by conv => lhs; whnf) rfl rfl rfl ?_
  refine s_mv (.inl rfl) (by conv => lhs; whnf) rfl rfl rfl ?_
  refine s_mv (.inl rfl) (by conv => lhs; whnf) rfl rfl rfl ?_
  refine s_mv (.inl rfl) (by conv => lhs; whnf) rfl rfl rfl ?_
  refine s_len (m := p0.length) rfl sl41 rfl rfl rfl rfl ?_
  refine grd_elim h fun g1 h => ?_
  refine s_slice3 rfl rfl rfl sl41 rfl rfl rfl g1 rfl rfl rfl ?_
  refine rt_nil ?_
  refine tri_seq ?_
  refine tri_seq ?_
  refine tri_region ?_
  refine s_mv (.inl rfl) (by conv => lhs; whnf) rfl rfl rfl ?_
  refine s_mv (.inl rfl) (by conv => lhs; whnf) rfl rfl rfl ?_
  refine s_of (st_eqI rfl rfl rfl) rfl rfl rfl rfl ?_
  refine rt_nil ?_
  refine tri_cond rfl (fun c2 => ?_) (fun c2 => ?_)
  · replace h := cond_t h c2
    refine tri_seq ?_
    refine tri_region ?_
    refine s_mv (.inl rfl) (by conv => lhs; whnf) rfl rfl rfl ?_
    refine s_mv (.inr rfl) (by conv => lhs; whnf) rfl rfl rfl ?_
    refine rt_nil ?_
    refine tri_ret ?_
    have e0 := (some2 h).1; have e1 := (some2 h).2; subst e0; subst e1
    exact endG0 [((1000, 0), ⟨32, 6, List.map mEntryV p0, false, false⟩, some (1000, 0))] [] (rvC (resTmp rfl) rvN) ⟨⟨rfl, _, rfl, rfl, rfl, rfl, id, rowsCv_eq rfl (allFree_map mEntryV_free), rowsZ_map mEntryV_len⟩, trivial⟩ trivial rfl rfl (by kernel_rfl) (.ref rfl)
  · replace h := cond_f h c2
    refine tri_skip ?_
    refine tri_seq ?_
    refine tri_region ?_
    refine s_mv (.inl rfl) (by conv => lhs; whnf) rfl rfl rfl ?_
    refine s_len (m := p0.length) rfl sl41 rfl rfl rfl rfl ?_
    refine s_mv (.inr rfl) (by conv => lhs; whnf) rfl rfl rfl ?_
    refine rt_nil ?_
    refine tri_seq ?_
    refine tri_draw mixed ?_
    refine s_mv (.inl rfl) (by conv => lhs; whnf) rfl rfl rfl ?_
    refine s_mv (.inl rfl) (by conv => lhs; whnf) rfl rfl rfl ?_
    refine grd_elim h fun g3 h => ?_
    refine s_sliceZ (a := ((0 : Nat) : Int)) (b := p1) rfl rfl rfl sl41 rfl rfl ⟨_, rfl⟩ g3 rfl rfl rfl ?_
    refine s_mv (.inl rfl) (by conv => lhs; whnf) rfl rfl rfl ?_
    refine s_mv (.inl rfl) (by conv => lhs; whnf) rfl rfl rfl ?_
    refine grd_elim h fun g4 h => ?_
    refine s_sliceZ (a := p2) (b := (p0.length : Int)) rfl rfl rfl sl41 rfl ⟨_, rfl⟩ rfl g4 rfl rfl rfl ?_
    refine grd_elim h fun g5 h => ?_
    refine s_appIn (l := p0) (m := ((p0.drop (0 + p2.toNat)).take ((p0.length : Int).toNat - p2.toNat))) rfl rfl sl41 rfl rfl rfl (src_refV rfl (by first | omega | (simp only [List.length_set]; omega))) g5 rfl rfl ?_
    refine s_mv (.inr rfl) (by conv => lhs; whnf) rfl rfl rfl ?_
    refine rt_nil ⟨by kernel_rfl, ?_⟩
    refine tri_seq ?_
    refine tri_region ?_
    refine s_mv (.inl rfl) (by conv => lhs; whnf) rfl rfl rfl ?_
    refine s_mv (.inl rfl) (by conv => lhs; whnf) rfl rfl rfl ?_
    refine s_len (m := ((p1.toNat - ((0 : Nat) : Int).toNat) + ((p0.drop (0 + p2.toNat)).take ((p0.length : Int).toNat - p2.toNat)).length : Nat)) rfl sl41 rfl rfl rfl rfl ?_
    refine s_mv (.inl rfl) (by conv => lhs; whnf) rfl rfl rfl ?_
    refine grd_elim h fun g6 h => ?_
    refine s_sliceCapZ (a := (((p1.toNat - ((0 : Nat) : Int).toNat) + ((p0.drop (0 + p2.toNat)).take ((p0.length : Int).toNat - p2.toNat)).length : Nat) : Int)) (b := (p0.length : Int)) rfl rfl rfl sl41 rfl rfl g6 rfl rfl rfl ?_
    refine s_clear rfl rfl rfl sl41 zc32 rfl rfl (by first | omega | (simp only [List.length_set]; omega) | (simp only [List.length_set, List.length_append, List.length_take, List.length_drop] at *; omega)) rfl rfl rfl ?_
    refine rt_nil ?_
    refine tri_seq ?_
    refine tri_region ?_
    refine s_mv (.inl rfl) (by conv => lhs; whnf) rfl rfl rfl ?_
    refine s_mv (.inr rfl) (by conv => lhs; whnf) rfl rfl rfl ?_
    refine rt_nil ?_
    refine tri_ret ?_
    have e0 := (some2 h).1; have e1 := (some2 h).2; subst e0; subst e1
    exact endG0 [((1000, 0), ⟨32, 6, List.map mEntryV ((p0.take (p1.toNat - ((0 : Nat) : Int).toNat) ++ ((p0.drop (0 + p2.toNat)).take ((p0.length : Int).toNat - p2.toNat)) ++ p0.drop ((p1.toNat - ((0 : Nat) : Int).toNat) + ((p0.drop (0 + p2.toNat)).take ((p0.length : Int).toNat - p2.toNat)).length)).take (0 + (((p1.toNat - ((0 : Nat) : Int).toNat) + ((p0.drop (0 + p2.toNat)).take ((p0.length : Int).toNat - p2.toNat)).length : Nat) : Int).toNat)), false, false⟩, some (1000, 0))] [] (rvC (resTmp rfl) rvN) ⟨⟨rfl, _, rfl, rfl, rfl, rfl, id, rowsCv_eq rfl (allFree_map mEntryV_free), rowsZ_map mEntryV_len⟩, trivial⟩ trivial rfl rfl (by kernel_rfl) (cvRefPre rfl rfl (by simp only [List.length_take, List.length_drop, List.length_set, List.length_append] at *; omega))

/- impl.Entry] -/
def inv_i_dropFirst_Entry_1 (p0 : List MEntry) (fi1 : FuncId) (cp1 : List V) (v1_0 : Int) (v1_1 : Nat) : St := mkT 36 [(0, .ref (1000, 0) 0 p0.length), (1, .fn fi1 cp1), (5, .sc (.int .i64 v1_0)), (8, .ref (1000, 0) 0 p0.length), (9, .sc (.int .i64 (p0.length : Int))), (10, .sc (.int .i64 (v1_1 : Int)))] [((1000, 0), some ⟨32, 6, List.map mEntryV p0, false, false⟩)]
def inv_i_dropFirst_Entry_0 (p0 : List MEntry) (j0_0 : Int) : St := mkT 36 [(0, .ref (1000, 0) 0 p0.length), (5, .sc (.int .i64 j0_0))] [((1000, 0), some ⟨32, 6, List.map mEntryV p0, false, false⟩)]
set_option maxRecDepth 4000 in
set_option maxHeartbeats 800000 in
theorem wi_dropFirst_Entry (p0 : List MEntry) (fi1 : FuncId) (cp1 : List V) (hf1 : cp1.all (·.free) = true) (hb1 : callable Tryd.prog fi1 = true) (p1 : MEntry → Option Int) (hg1 : ∀ (z0 : MEntry) v, p1 z0 = some v → Runs Tryd.prog fi1 ([.agg (mEntryV z0)] ++ cp1) [] (.sc (.int .i64 v)) []) (r0 : List MEntry) (r1 : List MEntry) (h : i_dropFirst_Entry p0 p1 = some (r0, r1)) : RunsG Tryd.prog 77 [.ref (1000, 0) 0 p0.length, .fn fi1 cp1] [⟨32, 6, List.map mEntryV p0, false, false⟩] (.ref (1000, 0) 0 r1.length) [] [⟨32, 6, List.map mEntryV r1, false, false⟩] := by
  unfold i_dropFirst_Entry at h
  refine runsG [.tmp 4] Tryd.func77 rfl rfl rfl rfl ?_
  rw [Tryd.ntmps77]
  refine tri_seq ?_
  refine tri_region ?_
  refine s_mv (.inr rfl) (v := .nils) rfl rfl rfl rfl ?_
  refine rt_nil ?_
  refine tri_seq ?_
  refine tri_region ?_
  refine s_mv (.inr rfl) (v := .sc (.int .i64 0)) rfl rfl rfl rfl ?_
  refine rt_nil ?_
  refine tri_cutI (ι := { p : Int // i_dropFirst_Entry_j0 p0 p = some (r0, r1) }) (fun p => inv_i_dropFirst_Entry_0 p0 p.1) ?_ ?_
  · skip
    refine tri_seq ?_
    refine tri_region ?_
    refine s_mv (.inl rfl) (by conv => lhs; whnf) rfl rfl rfl ?_
    refine s_len (m := p0.length) rfl sl41 rfl rfl rfl rfl ?_
    refine s_mv (.inl rfl) (v := .sc (.int .i64 0)) rfl rfl rfl rfl ?_
    refine rt_nil ?_
    refine tri_block ?_
    refine tri_ownM (1000, 0) rfl (fun hl1 => ?_)
    refine tri_loop (ι := { p : (List MEntry) × Int × Nat // p0.drop p.2.2 = p.1 ∧ i_dropFirst_Entry_l1 p0 p1 p.1 p.2.1 p.2.2 = some (r0, r1) }) (fun p => inv_i_dropFirst_Entry_1 p0 fi1 cp1 p.1.2.1 p.1.2.2) (fun p => p.1.1.length) ⟨(p0, 0, 0), rfl, h⟩ ?_ ?_
    · skip
      refine entX [((1000, 0), ⟨32, 6, List.map mEntryV p0, false, false⟩, some (1000, 0))] [] ⟨⟨rfl, _, rfl, rfl, rfl, rfl, id, rowsCv_eq rfl (allFree_map mEntryV_free), rowsZ_map mEntryV_len⟩, trivial⟩ trivial rfl rfl ?_
      exact ⟨(.ref rfl), (cvFn hf1), (.free rfl), (.ref rfl), (.free rfl), (.free rfl), trivial⟩
    · rintro ⟨⟨lrs1, v1_0, v1_1⟩, hd1, h⟩
      replace hd1 : p0.drop v1_1 = lrs1 := hd1
      replace h : i_dropFirst_Entry_l1 p0 p1 lrs1 v1_0 v1_1 = some (r0, r1) := h
      show Tri _ _ _ (inv_i_dropFirst_Entry_1 p0 fi1 cp1 v1_0 v1_1)
      refine tri_seq ?_
      refine tri_region ?_
      refine s_of (st_lss rfl rfl rfl) rfl rfl rfl rfl ?_
      refine rt_nil ?_
      refine tri_seq ?_
      refine tri_cond rfl (fun c1 => ?_) (fun c1 => ?_)
      · refine drop_elim hd1 c1 fun e1 rs1 he hx1 hn1 => ?_
        subst he
        rw [i_dropFirst_Entry_l1] at h
        refine tri_skip ?_
        refine tri_seq ?_
        refine tri_block ?_
        refine tri_seq ?_
        refine tri_region ?_
        refine s_mv (.inl rfl) (by conv => lhs; whnf) rfl rfl rfl ?_
        refine s_index0 (i := v1_1) rfl rfl rfl rfl sl41 rfl (get_lt hx1) rfl rfl rfl ?_
        refine s_loadR rfl rfl rfl (rowG hx1) ty32 rfl rfl rfl ?_
        refine s_alloc rfl rfl rfl zc32 rfl rfl rfl rfl rfl ?_
        refine s_mv (.inr rfl) (by conv => lhs; whnf) rfl rfl rfl ?_
        refine s_storeB rfl rfl rfl ty32 rfl rfl rfl rfl rfl ?_
        refine rt_nil ?_
        refine tri_seq ?_
        refine tri_draw mixed ?_
        refine s_mv (.inl rfl) (by conv => lhs; whnf) rfl rfl rfl ?_
        refine s_loadR rfl rfl rfl rfl ty32 rfl rfl rfl ?_
        refine bnd1_elim h fun x2 q3 h => ?_
        refine s_callN (kb := []) (ns := []) (v := .sc (.int .i64 x2)) rfl rfl hb1 (hg1 e1 x2 q3) rfl (.cons (relAgg rfl) (argsFree hf1)) trivial memNil .nil memNil rfl trivial memNil rfl rfl rfl rfl rfl rfl ?_
        refine s_mv (.inl rfl) (by conv => lhs; whnf) rfl rfl rfl ?_
        refine s_mv (.inl rfl) (by conv => lhs; whnf) rfl rfl rfl ?_
        refine s_mv (.inl rfl) (by conv => lhs; whnf) rfl rfl rfl ?_
        refine bnd1_elim h fun x4 q5 h => ?_
        have q5a := (idx_some q5).1; have q5b := (idx_some q5).2
        refine s_indexZ rfl rfl rfl rfl sl41 rfl q5a (get_lt q5b) rfl rfl rfl ?_
        refine s_loadR rfl rfl rfl (rowG q5b) ty32 rfl rfl rfl ?_
        refine bnd1_elim h fun x6 q7 h => ?_
        refine s_callN (kb := []) (ns := []) (v := .sc (.int .i64 x6)) rfl rfl hb1 (hg1 x4 x6 q7) rfl (.cons (relAgg rfl) (argsFree hf1)) trivial memNil .nil memNil rfl trivial memNil rfl rfl rfl rfl rfl rfl ?_
        refine s_of (st_lss rfl rfl rfl) rfl rfl rfl rfl ?_
        refine rt_nil ⟨by kernel_rfl, ?_⟩
        refine tri_cond rfl (fun c8 => ?_) (fun c8 => ?_)
        · replace h := cond_t h c8
          refine tri_region ?_
          refine s_mv (.inl rfl) (by conv => lhs; whnf) rfl rfl rfl ?_
          refine s_mv (.inr rfl) (by conv => lhs; whnf) rfl rfl rfl ?_
          refine rt_nil ?_
          refine tri_region ?_
          refine s_inc (a := v1_1) (b := 1) rfl rfl rfl rfl (by have := get_lt hx1; have := hl1; omega) rfl rfl rfl ?_
          refine s_mv (.inl rfl) (by conv => lhs; whnf) rfl rfl rfl ?_
          refine rt_nil ?_
          refine Exists.intro ⟨(rs1, (v1_1 : Int), (v1_1 + 1)), hn1, h⟩ (And.intro (Nat.lt_succ_self _) ?_)
          refine entX [((1000, 0), ⟨32, 6, List.map mEntryV p0, false, false⟩, some (1000, 0))] [] ⟨⟨rfl, _, rfl, rfl, rfl, rfl, id, rowsCv_eq rfl (allFree_map mEntryV_free), rowsZ_map mEntryV_len⟩, trivial⟩ trivial rfl rfl ?_
          exact ⟨(.ref rfl), (cvFn hf1), (.free rfl), (.ref rfl), (.free rfl), (.free rfl), trivial⟩
        · replace h := cond_f h c8
          refine tri_skip ?_
          refine tri_region ?_
          refine s_inc (a := v1_1) (b := 1) rfl rfl rfl rfl (by have := get_lt hx1; have := hl1; omega) rfl rfl rfl ?_
          refine s_mv (.inl rfl) (by conv => lhs; whnf) rfl rfl rfl ?_
          refine rt_nil ?_
          refine Exists.intro ⟨(rs1, v1_0, (v1_1 + 1)), hn1, h⟩ (And.intro (Nat.lt_succ_self _) ?_)
          refine entX [((1000, 0), ⟨32, 6, List.map mEntryV p0, false, false⟩, some (1000, 0))] [] ⟨⟨rfl, _, rfl, rfl, rfl, rfl, id, rowsCv_eq rfl (allFree_map mEntryV_free), rowsZ_map mEntryV_len⟩, trivial⟩ trivial rfl rfl ?_
          exact ⟨(.ref rfl), (cvFn hf1), (.free rfl), (.ref rfl), (.free rfl), (.free rfl), trivial⟩
      · have he := drop_f hd1 c1; subst he
        rw [i_dropFirst_Entry_l1] at h
        refine tri_exit ?_
        refine Exists.intro ⟨v1_0, h⟩ ?_
        refine entX [((1000, 0), ⟨32, 6, List.map mEntryV p0, false, false⟩, some (1000, 0))] [] ⟨⟨rfl, _, rfl, rfl, rfl, rfl, id, rowsCv_eq rfl (allFree_map mEntryV_free), rowsZ_map mEntryV_len⟩, trivial⟩ trivial rfl rfl ?_
        exact ⟨(.ref rfl), (.free rfl), trivial⟩
  · rintro ⟨j0_0, h⟩
    replace h : i_dropFirst_Entry_j0 p0 j0_0 = some (r0, r1) := h
    unfold i_dropFirst_Entry_j0 at h
    show Tri _ _ _ (inv_i_dropFirst_Entry_0 p0 j0_0)
    refine tri_seq ?_
    refine tri_seq ?_
    refine tri_region ?_
    refine s_mv (.inl rfl) (by conv => lhs; whnf) rfl rfl rfl ?_
    refine s_len (m := p0.length) rfl sl41 rfl rfl rfl rfl ?_
    refine s_of (st_eqI rfl rfl rfl) rfl rfl rfl rfl ?_
    refine rt_nil ?_
    refine tri_cond rfl (fun c1 => ?_) (fun c1 => ?_)
    · replace h := cond_t h c1
      refine tri_seq ?_
      refine tri_region ?_
      refine s_mv (.inl rfl) (by conv => lhs; whnf) rfl rfl rfl ?_
      refine s_mv (.inr rfl) (by conv => lhs; whnf) rfl rfl rfl ?_
      refine rt_nil ?_
      refine tri_ret ?_
      have e0 := (some2 h).1; have e1 := (some2 h).2; subst e0; subst e1
      exact endG0 [((1000, 0), ⟨32, 6, List.map mEntryV p0, false, false⟩, some (1000, 0))] [] (rvC (resTmp rfl) rvN) ⟨⟨rfl, _, rfl, rfl, rfl, rfl, id, rowsCv_eq rfl (allFree_map mEntryV_free), rowsZ_map mEntryV_len⟩, trivial⟩ trivial rfl rfl (by kernel_rfl) (.ref rfl)
    · replace h := cond_f h c1
      refine tri_skip ?_
      refine tri_seq ?_
      refine tri_region ?_
      refine s_mv (.inl rfl) (by conv => lhs; whnf) rfl rfl rfl ?_
      refine s_mv (.inl rfl) (by conv => lhs; whnf) rfl rfl rfl ?_
      refine s_mv (.inl rfl) (by conv => lhs; whnf) rfl rfl rfl ?_
      refine grd_elim h fun g2 h => ?_
      refine s_addI rfl rfl rfl rfl g2 rfl rfl rfl ?_
      refine bnd2_elim h fun x3 x4 q5 h => ?_
      refine s_callP (kb := []) (ns := [(1000, 0)]) (y := .ref (1000, 0) 0 x4.length) rfl rfl cl108 (wslices_Delete_Entry p0 j0_0 (j0_0 + 1) x3 x4 q5) rfl (.cons (.refOwn rfl) (.cons (.free rfl) (.cons (.free rfl) .nil))) ⟨⟨_, rfl, rfl⟩, trivial⟩ (memCons (freeZ_map mEntryV_free mEntryV_len) memNil) (List.nodup_cons.2 ⟨List.not_mem_nil, .nil⟩) memNil trivial (.inn rfl) (memCons (freeZ_map mEntryV_free mEntryV_len) memNil) rfl rfl rfl rfl ?_
      refine s_mv (.inr rfl) (by conv => lhs; whnf) rfl rfl rfl ?_
      refine rt_nil ?_
      refine tri_ret ?_
      have e0 := (some2 h).1; have e1 := (some2 h).2; subst e0; subst e1
      exact endG0 [((1000, 0), ⟨32, 6, List.map mEntryV x4, false, false⟩, some (1000, 0))] [] (rvC (resTmp rfl) rvN) ⟨⟨rfl, _, rfl, rfl, rfl, rfl, id, rowsCv_eq rfl (allFree_map mEntryV_free), rowsZ_map mEntryV_len⟩, trivial⟩ trivial rfl rfl (by kernel_rfl) (.ref rfl)

/- impl.Keep$2 -/

set_option maxRecDepth 4000 in
set_option maxHeartbeats 800000 in
theorem wi_Keep_2 (p0 : MEntry) (r0 : Int) (h : i_Keep_2 p0 = some r0) : Runs Tryd.prog 78 [.agg (mEntryV p0)] [] (.sc (.int .i64 r0)) [] := by
  unfold i_Keep_2 at h
  refine runsR [.tmp 2] Tryd.func78 rfl rfl rfl rfl ?_
  rw [Tryd.ntmps78]
  refine tri_seq ?_
  refine tri_region ?_
  refine s_box rfl rfl rfl rfl rfl rfl rfl ?_
  refine s_mv (.inr rfl) (v := .sc (.int .i64 0)) rfl rfl rfl rfl ?_
  refine rt_nil ?_
  refine tri_seq ?_
  refine tri_region ?_
  refine s_fieldAddr rfl rfl fd32_4 rfl rfl rfl rfl ?_
  refine s_load rfl rfl rfl rfl ty3 rfl (.inr rfl) (by conv => lhs; whnf) rfl rfl rfl ?_
  refine s_mv (.inr rfl) (by conv => lhs; whnf) rfl rfl rfl ?_
  refine rt_nil ?_
  refine tri_ret ?_
  have e0 := (some1 h); subst e0
  exact endY [] [] (rvC (resTmp rfl) rvN) trivial trivial rfl rfl rfl rfl (.free rfl)

end Go.Abs.M
