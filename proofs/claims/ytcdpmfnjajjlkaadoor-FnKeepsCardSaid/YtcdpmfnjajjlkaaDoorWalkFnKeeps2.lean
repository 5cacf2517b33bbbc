/- Walks of the functions that the law of FnKeeps reaches: what each of them computes, where its pure function does not fail. -/
import Derived.Test.YtcdpmfnjajjlkaaDoorWalkFnKeeps1
namespace Go.Abs.M
open Go Go.Abs Go.Proofs
theorem cl109 : callable Tryd.prog 109 = true := by kernel_rfl
theorem cl110 : callable Tryd.prog 110 = true := by kernel_rfl
theorem cl12 : callable Tryd.prog 12 = true := by kernel_rfl
theorem cl123 : callable Tryd.prog 123 = true := by kernel_rfl
theorem cl17 : callable Tryd.prog 17 = true := by kernel_rfl
theorem cl19 : callable Tryd.prog 19 = true := by kernel_rfl
theorem cl22 : callable Tryd.prog 22 = true := by kernel_rfl
theorem cl25 : callable Tryd.prog 25 = true := by kernel_rfl
theorem cl29 : callable Tryd.prog 29 = true := by kernel_rfl
theorem cl32 : callable Tryd.prog 32 = true := by kernel_rfl
theorem cl33 : callable Tryd.prog 33 = true := by kernel_rfl
theorem cl35 : callable Tryd.prog 35 = true := by kernel_rfl
theorem cl56 : callable Tryd.prog 56 = true := by kernel_rfl
theorem cl57 : callable Tryd.prog 57 = true := by kernel_rfl
theorem cl62 : callable Tryd.prog 62 = true := by kernel_rfl
theorem cl69 : callable Tryd.prog 69 = true := by kernel_rfl
theorem cl72 : callable Tryd.prog 72 = true := by kernel_rfl
theorem cl75 : callable Tryd.prog 75 = true := by kernel_rfl
theorem cl76 : callable Tryd.prog 76 = true := by kernel_rfl
theorem cl77 : callable Tryd.prog 77 = true := by kernel_rfl
theorem cl78 : callable Tryd.prog 78 = true := by kernel_rfl
theorem cl81 : callable Tryd.prog 81 = true := by kernel_rfl
theorem fk60 : flatK Tryd.prog 60 = some [2, 1, 1, 1, 2, 2] := by kernel_rfl
theorem isb4 : isBool Tryd.prog 4 = true := by kernel_rfl
theorem zc30 : zeroC Tryd.prog 30 = some [.slice none 0 0] := by kernel_rfl
/- impl.Keep -/
def inv_i_Keep_1 (x1 : MCache) (x4 : MEntry) (x6 : Int) (j1_0 : Bool) : St := mkT 70 [(3, .ptr (3, 0) 0 0), (5, .ptr (5, 0) 0 0), (6, .ptr (6, 0) 0 0), (7, .sc (.int .i64 x6)), (46, .sc (.bool j1_0))] [((3, 0), some ⟨43, 2, [[.sc (.int .i64 x1.cap), .ref (9, 1) 0 x1.l.length]], false, true⟩), ((9, 1), some ⟨32, 6, List.map mEntryV x1.l, false, true⟩), ((5, 0), some ⟨32, 6, [[.sc (.string x4.q.name), .sc (.int .i64 x4.q.ty), .sc (.int .i64 x4.kind), .lst 6 (List.map recV x4.l), .sc (.int .i64 x4.rank), .sc (.int .i64 x4.til)]], false, true⟩), ((6, 0), some ⟨43, 2, [[.sc (.int .i64 0), .nils]], false, true⟩)]
def inv_i_Keep_2 (x1 : MCache) (x4 : MEntry) (j2_0 : List MEntry) : St := mkT 70 [(3, .ptr (3, 0) 0 0), (5, .ptr (5, 0) 0 0), (6, .ptr (6, 0) 0 0)] [((3, 0), some ⟨43, 2, [[.sc (.int .i64 x1.cap), .ref (9, 1) 0 j2_0.length]], false, true⟩), ((9, 1), some ⟨32, 6, List.map mEntryV j2_0, false, true⟩), ((5, 0), some ⟨32, 6, [[.sc (.string x4.q.name), .sc (.int .i64 x4.q.ty), .sc (.int .i64 x4.kind), .lst 6 (List.map recV x4.l), .sc (.int .i64 x4.rank), .sc (.int .i64 x4.til)]], false, true⟩), ((6, 0), some ⟨43, 2, [[.sc (.int .i64 0), .nils]], false, true⟩)]
def inv_i_Keep_0 (p1 : Int) (p2 : MEntry) (x1 : MCache) (j0_0 : Bool) : St := mkT 70 [(1, .sc (.int .i64 p1)), (3, .ptr (3, 0) 0 0), (5, .ptr (5, 0) 0 0), (6, .ptr (6, 0) 0 0), (18, .sc (.bool j0_0))] [((3, 0), some ⟨43, 2, [[.sc (.int .i64 x1.cap), .ref (9, 1) 0 x1.l.length]], false, true⟩), ((9, 1), some ⟨32, 6, List.map mEntryV x1.l, false, true⟩), ((5, 0), some ⟨32, 6, [[.sc (.string p2.q.name), .sc (.int .i64 p2.q.ty), .sc (.int .i64 p2.kind), .lst 6 (List.map recV p2.l), .sc (.int .i64 p2.rank), .sc (.int .i64 p2.til)]], false, true⟩), ((6, 0), some ⟨43, 2, [[.sc (.int .i64 0), .nils]], false, true⟩)]
set_option maxRecDepth 4000 in
set_option maxHeartbeats 800000 in
theorem wi_Keep (p0 : MCache) (p1 : Int) (p2 : MEntry) (r0 : MCache) (h : i_Keep p0 p1 p2 = some r0) : Runs Tryd.prog 33 [.agg (mCacheV p0), .sc (.int .i64 p1), .agg (mEntryV p2)] [] (.agg [.sc (.int .i64 r0.cap), .own 32 6 (List.map mEntryV r0.l)]) [] := by
  unfold i_Keep at h
  refine runsR [.cell 6 43] Tryd.func33 rfl rfl rfl rfl ?_
  rw [Tryd.ntmps33]
  refine tri_seq ?_
  refine tri_region ?_
  refine s_box rfl rfl rfl rfl rfl rfl rfl ?_
  refine s_box rfl rfl rfl rfl rfl rfl rfl ?_
  refine s_alloc rfl rfl rfl zc43 rfl rfl rfl rfl rfl ?_
  refine rt_nil ?_
  refine tri_seq ?_
  refine tri_region ?_
  refine s_loadR rfl rfl rfl rfl ty43 rfl rfl rfl ?_
  refine bnd1_elim h fun x1 q2 h => ?_
  refine s_callZ (kb := []) (ns := []) (v := .agg [.sc (.int .i64 x1.cap), .ref (9, 1) 0 x1.l.length]) rfl rfl cl62 (wi_copyCache (MCache.mk p0.cap p0.l) x1 q2) rfl (.cons (relAgg rfl) .nil) trivial memNil .nil memNil trivial rfl ⟨(allFree_map mEntryV_free), trivial⟩ memNil rfl (by first | (simp only [V.mat, V.mat1, V.mat0, matL, matT, List.length_map]; done) | (simp only [V.mat, V.mat1, V.mat0, matL, matT, List.length_map]; rfl)) rfl rfl rfl rfl ?_
  refine s_storeB rfl rfl rfl ty43 rfl rfl rfl rfl rfl ?_
  refine rt_nil ?_
  refine tri_seq ?_
  refine tri_cutI (ι := { p : Bool // i_Keep_j0 p1 p2 x1 p = some r0 }) (fun p => inv_i_Keep_0 p1 p2 x1 p.1) ?_ ?_
  · skip
    refine tri_region ?_
    refine s_loadR rfl rfl rfl rfl ty32 rfl rfl rfl ?_
    refine bnd1_elim h fun x3 q4 h => ?_
    refine s_callN (kb := []) (ns := []) (v := .sc (.bool x3)) rfl rfl cl12 (wi_EntryOk (MEntry.mk (Quest.mk p2.q.name p2.q.ty) p2.kind p2.l p2.rank p2.til) x3 q4) rfl (.cons (relAgg rfl) .nil) trivial memNil .nil memNil rfl trivial memNil rfl rfl rfl rfl rfl rfl ?_
    refine s_of (st_not rfl rfl) rfl rfl rfl rfl ?_
    refine s_mv (.inl rfl) (by conv => lhs; whnf) rfl rfl rfl ?_
    refine s_split (t := 13) rfl (fun b5 => ?_) (fun b5 => ?_)
    · replace h := cond_t h b5
      refine s_skip rfl rfl rfl ?_
      refine s_skip rfl rfl rfl ?_
      refine s_skip rfl rfl rfl ?_
      refine s_skip rfl rfl rfl ?_
      refine s_pickT rfl rfl (v := .sc (.bool true)) rfl rfl rfl rfl ?_
      refine rt_nil ?_
      refine Exists.intro ⟨true, h⟩ ?_
      refine entX [((3, 0), ⟨43, 2, [[.sc (.int .i64 x1.cap), .ref (9, 1) 0 x1.l.length]], false, true⟩, some (3, 0)), ((9, 1), ⟨32, 6, List.map mEntryV x1.l, false, true⟩, some (9, 1)), ((5, 0), ⟨32, 6, [[.sc (.string p2.q.name), .sc (.int .i64 p2.q.ty), .sc (.int .i64 p2.kind), .lst 6 (List.map recV p2.l), .sc (.int .i64 p2.rank), .sc (.int .i64 p2.til)]], false, true⟩, some (5, 0)), ((6, 0), ⟨43, 2, [[.sc (.int .i64 0), .nils]], false, true⟩, some (6, 0))] [] ⟨⟨rfl, _, rfl, rfl, rfl, rfl, id, rowsCv_one (.cons (.free rfl) (.cons (.ref rfl) .nil)), rowsZ_one rfl⟩, ⟨rfl, _, rfl, rfl, rfl, rfl, id, rowsCv_eq rfl (allFree_map mEntryV_free), rowsZ_map mEntryV_len⟩, ⟨rfl, _, rfl, rfl, rfl, rfl, id, rowsCv_one (.cons (.free rfl) (.cons (.free rfl) (.cons (.free rfl) (.cons (.free rfl) (.cons (.free rfl) (.cons (.free rfl) .nil)))))), rowsZ_one rfl⟩, ⟨rfl, _, rfl, rfl, rfl, rfl, id, rowsCv_one (.cons (.free rfl) (.cons (.free rfl) .nil)), rowsZ_one rfl⟩, trivial⟩ trivial rfl rfl ?_
      exact ⟨(.free rfl), (.ptr rfl), (.ptr rfl), (.ptr rfl), (.free rfl), trivial⟩
    · replace h := cond_f h b5
      refine s_fieldAddr rfl rfl fd32_4 rfl rfl rfl rfl ?_
      refine s_load rfl rfl rfl rfl ty3 rfl (.inr rfl) (by conv => lhs; whnf) rfl rfl rfl ?_
      refine s_mv (.inl rfl) (by conv => lhs; whnf) rfl rfl rfl ?_
      refine s_of (st_leq rfl rfl rfl) rfl rfl rfl rfl ?_
      refine s_pickF rfl rfl (by conv => lhs; whnf) rfl rfl rfl ?_
      refine rt_nil ?_
      refine Exists.intro ⟨decide (p2.til ≤ p1), h⟩ ?_
      refine entX [((3, 0), ⟨43, 2, [[.sc (.int .i64 x1.cap), .ref (9, 1) 0 x1.l.length]], false, true⟩, some (3, 0)), ((9, 1), ⟨32, 6, List.map mEntryV x1.l, false, true⟩, some (9, 1)), ((5, 0), ⟨32, 6, [[.sc (.string p2.q.name), .sc (.int .i64 p2.q.ty), .sc (.int .i64 p2.kind), .lst 6 (List.map recV p2.l), .sc (.int .i64 p2.rank), .sc (.int .i64 p2.til)]], false, true⟩, some (5, 0)), ((6, 0), ⟨43, 2, [[.sc (.int .i64 0), .nils]], false, true⟩, some (6, 0))] [] ⟨⟨rfl, _, rfl, rfl, rfl, rfl, id, rowsCv_one (.cons (.free rfl) (.cons (.ref rfl) .nil)), rowsZ_one rfl⟩, ⟨rfl, _, rfl, rfl, rfl, rfl, id, rowsCv_eq rfl (allFree_map mEntryV_free), rowsZ_map mEntryV_len⟩, ⟨rfl, _, rfl, rfl, rfl, rfl, id, rowsCv_one (.cons (.free rfl) (.cons (.free rfl) (.cons (.free rfl) (.cons (.free rfl) (.cons (.free rfl) (.cons (.free rfl) .nil)))))), rowsZ_one rfl⟩, ⟨rfl, _, rfl, rfl, rfl, rfl, id, rowsCv_one (.cons (.free rfl) (.cons (.free rfl) .nil)), rowsZ_one rfl⟩, trivial⟩ trivial rfl rfl ?_
      exact ⟨(.free rfl), (.ptr rfl), (.ptr rfl), (.ptr rfl), (.free rfl), trivial⟩
  · rintro ⟨j0_0, h⟩
    replace h : i_Keep_j0 p1 p2 x1 j0_0 = some r0 := h
    unfold i_Keep_j0 at h
    show Tri _ _ _ (inv_i_Keep_0 p1 p2 x1 j0_0)
    refine tri_cond rfl (fun c3 => ?_) (fun c3 => ?_)
    · replace h := cond_t h c3
      refine tri_seq ?_
      refine tri_region ?_
      refine s_loadR rfl rfl rfl rfl ty43 rfl rfl rfl ?_
      refine s_storeB rfl rfl rfl ty43 rfl rfl rfl rfl rfl ?_
      refine rt_nil ?_
      refine tri_ret ?_
      have e0 := (some1 h); subst e0
      exact endY (v' := .agg [.sc (.int .i64 x1.cap), .ref (2000, 1) 0 x1.l.length]) [((2000, 1), ⟨32, 6, List.map mEntryV x1.l, false, true⟩, some (9, 1))] [] (rvC (resCell rfl rfl ty43) rvN) ⟨⟨rfl, _, rfl, rfl, rfl, rfl, id, rowsCv_eq rfl (allFree_map mEntryV_free), rowsZ_map mEntryV_len⟩, trivial⟩ trivial rfl rfl (by kernel_rfl) (by first | (simp only [V.mat, V.mat1, V.mat0, matL, matT, List.length_map]; done) | (simp only [V.mat, V.mat1, V.mat0, matL, matT, List.length_map]; rfl)) (CvL.agg (.cons (.free rfl) (.cons (.ref rfl) .nil)))
    · replace h := cond_f h c3
      refine tri_skip ?_
      refine tri_seq ?_
      refine tri_region ?_
      refine s_loadR rfl rfl rfl rfl ty32 rfl rfl rfl ?_
      refine bnd1_elim h fun x4 q5 h => ?_
      refine s_callNF (kb := []) (ns := []) (v := .agg [.sc (.string x4.q.name), .sc (.int .i64 x4.q.ty), .sc (.int .i64 x4.kind), .ref (21, 3) 0 x4.l.length, .sc (.int .i64 x4.rank), .sc (.int .i64 x4.til)]) (D := [(21, 3)]) rfl rfl cl74 (wi_copyEntry (MEntry.mk (Quest.mk p2.q.name p2.q.ty) p2.kind p2.l p2.rank p2.til) x4 q5) rfl (.cons (relAgg rfl) .nil) trivial memNil .nil memNil rfl ⟨(allSc_map recV_sc), trivial⟩ memNil rfl (by first | (simp only [V.mat, V.mat1, V.mat0, matL, matT, List.length_map]; done) | (simp only [V.mat, V.mat1, V.mat0, matL, matT, List.length_map]; rfl)) rfl ⟨⟨rfl, rfl, _, rfl, rfl⟩, trivial⟩ (relAggL (.cons (.free rfl) (.cons (.free rfl) (.cons (.free rfl) (.cons (lendL rfl (.head _) rfl recV_free recV_len) (.cons (.free rfl) (.cons (.free rfl) .nil))))))) rfl rfl rfl ?_
      refine s_storeB rfl rfl rfl ty32 rfl rfl rfl rfl rfl ?_
      refine rt_nil ?_
      refine tri_seq ?_
      refine tri_region ?_
      refine s_fieldAddr rfl rfl fd43_1 rfl rfl rfl rfl ?_
      refine s_load rfl rfl rfl rfl ty41 rfl (.inr rfl) (by conv => lhs; whnf) rfl rfl rfl ?_
      refine s_makeFunc (caps := [.ptr (5, 0) 0 0]) rfl rfl rfl rfl rfl ?_
      refine bnd1_elim h fun x6 q7 h => ?_
      refine s_callN (kb := [(9, 1), (5, 0)]) (ns := []) (v := .sc (.int .i64 x6)) rfl rfl cl75 (wslices_IndexFunc_Entry x1.l 76 ([.lptr 6 [[.sc (.string x4.q.name), .sc (.int .i64 x4.q.ty), .sc (.int .i64 x4.kind), .lst 6 (List.map recV x4.l), .sc (.int .i64 x4.rank), .sc (.int .i64 x4.til)]] 0 0]) rfl cl76 (fun a0 => i_Keep_1 a0 (MEntry.mk (Quest.mk x4.q.name x4.q.ty) x4.kind x4.l x4.rank x4.til)) (fun a0 v0 hv => wi_Keep_1 a0 (MEntry.mk (Quest.mk x4.q.name x4.q.ty) x4.kind x4.l x4.rank x4.til) v0 hv) x6 q7) rfl (.cons (lendL rfl (.head _) rfl mEntryV_free mEntryV_len) (.cons (relFnL rfl (.cons (relBoxL rfl (.tail _ (.head _)) (.cons (.free rfl) (.cons (.free rfl) (.cons (.free rfl) (.cons (.free rfl) (.cons (.free rfl) (.cons (.free rfl) .nil)))))) rfl rfl) .nil)) .nil)) trivial memNil .nil (fun _ _ => List.not_mem_nil) rfl trivial memNil rfl rfl rfl rfl rfl rfl ?_
      refine s_mv (.inr rfl) (by conv => lhs; whnf) rfl rfl rfl ?_
      refine rt_nil ?_
      refine tri_seq ?_
      refine tri_seq ?_
      refine tri_region ?_
      refine s_mv (.inl rfl) (by conv => lhs; whnf) rfl rfl rfl ?_
      refine s_of (st_geq rfl rfl rfl) rfl rfl rfl rfl ?_
      refine rt_nil ?_
      refine tri_cond rfl (fun c8 => ?_) (fun c8 => ?_)
      · replace h := cond_t h c8
        refine tri_seq ?_
        refine tri_cutI (ι := { p : Bool // i_Keep_j1 x1 x4 x6 p = some r0 }) (fun p => inv_i_Keep_1 x1 x4 x6 p.1) ?_ ?_
        · skip
          refine tri_draw mixed ?_
          refine s_fieldAddr rfl rfl fd32_3 rfl rfl rfl rfl ?_
          refine s_load rfl rfl rfl rfl ty3 rfl (.inr rfl) (by conv => lhs; whnf) rfl rfl rfl ?_
          refine s_fieldAddr rfl rfl fd43_1 rfl rfl rfl rfl ?_
          refine s_load rfl rfl rfl rfl ty41 rfl (.inr rfl) (by conv => lhs; whnf) rfl rfl rfl ?_
          refine s_mv (.inl rfl) (by conv => lhs; whnf) rfl rfl rfl ?_
          refine bnd1_elim h fun x9 q10 h => ?_
          have q10a := (idx_some q10).1; have q10b := (idx_some q10).2
          refine s_indexZ rfl rfl rfl rfl sl41 rfl q10a (get_lt q10b) rfl rfl rfl ?_
          refine s_fieldAddr rfl rfl fd32_3 rfl rfl rfl rfl ?_
          refine s_load rfl rfl rfl (rowG q10b) ty3 rfl (.inr rfl) (by conv => lhs; whnf) rfl rfl rfl ?_
          refine s_of (st_geq rfl rfl rfl) rfl rfl rfl rfl ?_
          refine s_mv (.inl rfl) (by conv => lhs; whnf) rfl rfl rfl ?_
          refine s_split (t := 37) rfl (fun b11 => ?_) (fun b11 => ?_)
          · replace h := cond_t h b11
            refine s_skip rfl rfl rfl ?_
            refine s_skip rfl rfl rfl ?_
            refine s_skip rfl rfl rfl ?_
            refine s_skip rfl rfl rfl ?_
            refine s_skip rfl rfl rfl ?_
            refine s_skip rfl rfl rfl ?_
            refine s_skip rfl rfl rfl ?_
            refine s_skip rfl rfl rfl ?_
            refine s_pickT rfl rfl (v := .sc (.bool true)) rfl rfl rfl rfl ?_
            refine rt_nil ⟨by kernel_rfl, ?_⟩
            refine Exists.intro ⟨true, h⟩ ?_
            refine entX [((3, 0), ⟨43, 2, [[.sc (.int .i64 x1.cap), .ref (9, 1) 0 x1.l.length]], false, true⟩, some (3, 0)), ((9, 1), ⟨32, 6, List.map mEntryV x1.l, false, true⟩, some (9, 1)), ((5, 0), ⟨32, 6, [[.sc (.string x4.q.name), .sc (.int .i64 x4.q.ty), .sc (.int .i64 x4.kind), .lst 6 (List.map recV x4.l), .sc (.int .i64 x4.rank), .sc (.int .i64 x4.til)]], false, true⟩, some (5, 0)), ((6, 0), ⟨43, 2, [[.sc (.int .i64 0), .nils]], false, true⟩, some (6, 0))] [] ⟨⟨rfl, _, rfl, rfl, rfl, rfl, id, rowsCv_one (.cons (.free rfl) (.cons (.ref rfl) .nil)), rowsZ_one rfl⟩, ⟨rfl, _, rfl, rfl, rfl, rfl, id, rowsCv_eq rfl (allFree_map mEntryV_free), rowsZ_map mEntryV_len⟩, ⟨rfl, _, rfl, rfl, rfl, rfl, id, rowsCv_one (.cons (.free rfl) (.cons (.free rfl) (.cons (.free rfl) (.cons (.free rfl) (.cons (.free rfl) (.cons (.free rfl) .nil)))))), rowsZ_one rfl⟩, ⟨rfl, _, rfl, rfl, rfl, rfl, id, rowsCv_one (.cons (.free rfl) (.cons (.free rfl) .nil)), rowsZ_one rfl⟩, trivial⟩ trivial rfl rfl ?_
            exact ⟨(.ptr rfl), (.ptr rfl), (.ptr rfl), (.free rfl), (.free rfl), trivial⟩
          · replace h := cond_f h b11
            refine s_fieldAddr rfl rfl fd43_1 rfl rfl rfl rfl ?_
            refine s_load rfl rfl rfl rfl ty41 rfl (.inr rfl) (by conv => lhs; whnf) rfl rfl rfl ?_
            refine s_mv (.inl rfl) (by conv => lhs; whnf) rfl rfl rfl ?_
            refine s_indexZ rfl rfl rfl rfl sl41 rfl q10a (get_lt q10b) rfl rfl rfl ?_
            refine s_fieldAddr rfl rfl fd32_4 rfl rfl rfl rfl ?_
            refine s_load rfl rfl rfl (rowG q10b) ty3 rfl (.inr rfl) (by conv => lhs; whnf) rfl rfl rfl ?_
            refine s_mv (.inl rfl) (by conv => lhs; whnf) rfl rfl rfl ?_
            refine s_of (st_leq rfl rfl rfl) rfl rfl rfl rfl ?_
            refine s_pickF rfl rfl (by conv => lhs; whnf) rfl rfl rfl ?_
            refine rt_nil ⟨by kernel_rfl, ?_⟩
            refine Exists.intro ⟨decide (x9.til ≤ p1), h⟩ ?_
            refine entX [((3, 0), ⟨43, 2, [[.sc (.int .i64 x1.cap), .ref (9, 1) 0 x1.l.length]], false, true⟩, some (3, 0)), ((9, 1), ⟨32, 6, List.map mEntryV x1.l, false, true⟩, some (9, 1)), ((5, 0), ⟨32, 6, [[.sc (.string x4.q.name), .sc (.int .i64 x4.q.ty), .sc (.int .i64 x4.kind), .lst 6 (List.map recV x4.l), .sc (.int .i64 x4.rank), .sc (.int .i64 x4.til)]], false, true⟩, some (5, 0)), ((6, 0), ⟨43, 2, [[.sc (.int .i64 0), .nils]], false, true⟩, some (6, 0))] [] ⟨⟨rfl, _, rfl, rfl, rfl, rfl, id, rowsCv_one (.cons (.free rfl) (.cons (.ref rfl) .nil)), rowsZ_one rfl⟩, ⟨rfl, _, rfl, rfl, rfl, rfl, id, rowsCv_eq rfl (allFree_map mEntryV_free), rowsZ_map mEntryV_len⟩, ⟨rfl, _, rfl, rfl, rfl, rfl, id, rowsCv_one (.cons (.free rfl) (.cons (.free rfl) (.cons (.free rfl) (.cons (.free rfl) (.cons (.free rfl) (.cons (.free rfl) .nil)))))), rowsZ_one rfl⟩, ⟨rfl, _, rfl, rfl, rfl, rfl, id, rowsCv_one (.cons (.free rfl) (.cons (.free rfl) .nil)), rowsZ_one rfl⟩, trivial⟩ trivial rfl rfl ?_
            exact ⟨(.ptr rfl), (.ptr rfl), (.ptr rfl), (.free rfl), (.free rfl), trivial⟩
        · rintro ⟨j1_0, h⟩
          replace h : i_Keep_j1 x1 x4 x6 j1_0 = some r0 := h
          unfold i_Keep_j1 at h
          show Tri _ _ _ (inv_i_Keep_1 x1 x4 x6 j1_0)
          refine tri_cond rfl (fun c9 => ?_) (fun c9 => ?_)
          · replace h := cond_t h c9
            refine tri_region ?_
            refine s_fieldAddr rfl rfl fd43_1 rfl rfl rfl rfl ?_
            refine s_load rfl rfl rfl rfl ty41 rfl (.inr rfl) (by conv => lhs; whnf) rfl rfl rfl ?_
            refine s_mv (.inl rfl) (by conv => lhs; whnf) rfl rfl rfl ?_
            refine s_loadR rfl rfl rfl rfl ty32 rfl rfl rfl ?_
            refine bnd1_elim h fun x10 q11 h => ?_
            have q11a := (idx_some q11).1; have q11b := (idx_some q11).2
            refine s_indexZ rfl rfl rfl rfl sl41 rfl q11a (get_lt q11b) rfl rfl rfl ?_
            refine s_storeL (x' := MEntry.mk (Quest.mk x4.q.name x4.q.ty) x4.kind x4.l x4.rank x4.til) rfl rfl rfl q11b ty32 rfl rfl rfl rfl rfl rfl ?_
            refine rt_nil ?_
            refine tri_seq ?_
            refine tri_region ?_
            refine s_loadR rfl rfl rfl rfl ty43 rfl rfl rfl ?_
            refine s_storeB rfl rfl rfl ty43 rfl rfl rfl rfl rfl ?_
            refine rt_nil ?_
            refine tri_ret ?_
            have e0 := (some1 h); subst e0
            exact endY (v' := .agg [.sc (.int .i64 x1.cap), .ref (2000, 1) 0 ((x1.l.set x6.toNat (MEntry.mk (Quest.mk x4.q.name x4.q.ty) x4.kind x4.l x4.rank x4.til)).length)]) [((2000, 1), ⟨32, 6, List.map mEntryV (x1.l.set x6.toNat (MEntry.mk (Quest.mk x4.q.name x4.q.ty) x4.kind x4.l x4.rank x4.til)), false, true⟩, some (9, 1))] [] (rvC (resCell rfl rfl ty43) rvN) ⟨⟨rfl, _, rfl, rfl, rfl, rfl, id, rowsCv_eq rfl (allFree_map mEntryV_free), rowsZ_map mEntryV_len⟩, trivial⟩ trivial rfl rfl (by kernel_rfl) (by first | (simp only [V.mat, V.mat1, V.mat0, matL, matT, List.length_map]; done) | (simp only [V.mat, V.mat1, V.mat0, matL, matT, List.length_map]; rfl)) (CvL.agg (.cons (.free rfl) (.cons (cvRefLen rfl (by simp only [List.length_set])) .nil)))
          · replace h := cond_f h c9
            refine tri_skip ?_
            refine tri_seq ?_
            refine tri_region ?_
            refine s_loadR rfl rfl rfl rfl ty43 rfl rfl rfl ?_
            refine s_storeB rfl rfl rfl ty43 rfl rfl rfl rfl rfl ?_
            refine rt_nil ?_
            refine tri_ret ?_
            have e0 := (some1 h); subst e0
            exact endY (v' := .agg [.sc (.int .i64 x1.cap), .ref (2000, 1) 0 x1.l.length]) [((2000, 1), ⟨32, 6, List.map mEntryV x1.l, false, true⟩, some (9, 1))] [] (rvC (resCell rfl rfl ty43) rvN) ⟨⟨rfl, _, rfl, rfl, rfl, rfl, id, rowsCv_eq rfl (allFree_map mEntryV_free), rowsZ_map mEntryV_len⟩, trivial⟩ trivial rfl rfl (by kernel_rfl) (by first | (simp only [V.mat, V.mat1, V.mat0, matL, matT, List.length_map]; done) | (simp only [V.mat, V.mat1, V.mat0, matL, matT, List.length_map]; rfl)) (CvL.agg (.cons (.free rfl) (.cons (.ref rfl) .nil)))
      · replace h := cond_f h c8
        refine tri_skip ?_
        refine tri_cutI (ι := { p : (List MEntry) // i_Keep_j2 x1 x4 p = some r0 }) (fun p => inv_i_Keep_2 x1 x4 p.1) ?_ ?_
        · skip
          refine tri_seq ?_
          refine tri_region ?_
          refine s_fieldAddr rfl rfl fd43_1 rfl rfl rfl rfl ?_
          refine s_load rfl rfl rfl rfl ty41 rfl (.inr rfl) (by conv => lhs; whnf) rfl rfl rfl ?_
          refine s_len (m := x1.l.length) rfl sl41 rfl rfl rfl rfl ?_
          refine s_fieldAddr rfl rfl fd43_0 rfl rfl rfl rfl ?_
          refine s_load rfl rfl rfl rfl ty3 rfl (.inr rfl) (by conv => lhs; whnf) rfl rfl rfl ?_
          refine s_of (st_geq rfl rfl rfl) rfl rfl rfl rfl ?_
          refine rt_nil ?_
          refine tri_cond rfl (fun c12 => ?_) (fun c12 => ?_)
          · replace h := cond_t h c12
            refine tri_region ?_
            refine s_fieldAddr rfl rfl fd43_1 rfl rfl rfl rfl ?_
            refine s_load rfl rfl rfl rfl ty41 rfl (.inr rfl) (by conv => lhs; whnf) rfl rfl rfl ?_
            refine bnd2_elim h fun x13 x14 q15 h => ?_
            refine s_callP (kb := []) (ns := [(9, 1)]) (y := .ref (9, 1) 0 x14.length) rfl rfl cl77 (wi_dropFirst_Entry x1.l 78 [] rfl cl78 (fun a0 => i_Keep_2 a0) (fun a0 v0 hv => wi_Keep_2 a0 v0 hv) x13 x14 q15) rfl (.cons (.refOwn rfl) (.cons relFn0 .nil)) ⟨⟨_, rfl, rfl⟩, trivial⟩ (memCons (freeZ_map mEntryV_free mEntryV_len) memNil) (List.nodup_cons.2 ⟨List.not_mem_nil, .nil⟩) memNil trivial (.inn rfl) (memCons (freeZ_map mEntryV_free mEntryV_len) memNil) rfl rfl rfl rfl ?_
            refine s_fieldAddr rfl rfl fd43_1 rfl rfl rfl rfl ?_
            refine s_store (rows' := [[.sc (.int .i64 x1.cap), .ref (9, 1) 0 x14.length]]) rfl rfl rfl rfl ty41 rfl rfl rfl rfl rfl rfl ?_
            refine rt_nil ?_
            refine Exists.intro ⟨x14, h⟩ ?_
            refine entX [((3, 0), ⟨43, 2, [[.sc (.int .i64 x1.cap), .ref (9, 1) 0 x14.length]], false, true⟩, some (3, 0)), ((9, 1), ⟨32, 6, List.map mEntryV x14, false, true⟩, some (9, 1)), ((5, 0), ⟨32, 6, [[.sc (.string x4.q.name), .sc (.int .i64 x4.q.ty), .sc (.int .i64 x4.kind), .lst 6 (List.map recV x4.l), .sc (.int .i64 x4.rank), .sc (.int .i64 x4.til)]], false, true⟩, some (5, 0)), ((6, 0), ⟨43, 2, [[.sc (.int .i64 0), .nils]], false, true⟩, some (6, 0))] [] ⟨⟨rfl, _, rfl, rfl, rfl, rfl, id, rowsCv_one (.cons (.free rfl) (.cons (.ref rfl) .nil)), rowsZ_one rfl⟩, ⟨rfl, _, rfl, rfl, rfl, rfl, id, rowsCv_eq rfl (allFree_map mEntryV_free), rowsZ_map mEntryV_len⟩, ⟨rfl, _, rfl, rfl, rfl, rfl, id, rowsCv_one (.cons (.free rfl) (.cons (.free rfl) (.cons (.free rfl) (.cons (.free rfl) (.cons (.free rfl) (.cons (.free rfl) .nil)))))), rowsZ_one rfl⟩, ⟨rfl, _, rfl, rfl, rfl, rfl, id, rowsCv_one (.cons (.free rfl) (.cons (.free rfl) .nil)), rowsZ_one rfl⟩, trivial⟩ trivial rfl rfl ?_
            exact ⟨(.ptr rfl), (.ptr rfl), (.ptr rfl), trivial⟩
          · replace h := cond_f h c12
            refine tri_skip ?_
            refine Exists.intro ⟨x1.l, h⟩ ?_
            refine entX [((3, 0), ⟨43, 2, [[.sc (.int .i64 x1.cap), .ref (9, 1) 0 x1.l.length]], false, true⟩, some (3, 0)), ((9, 1), ⟨32, 6, List.map mEntryV x1.l, false, true⟩, some (9, 1)), ((5, 0), ⟨32, 6, [[.sc (.string x4.q.name), .sc (.int .i64 x4.q.ty), .sc (.int .i64 x4.kind), .lst 6 (List.map recV x4.l), .sc (.int .i64 x4.rank), .sc (.int .i64 x4.til)]], false, true⟩, some (5, 0)), ((6, 0), ⟨43, 2, [[.sc (.int .i64 0), .nils]], false, true⟩, some (6, 0))] [] ⟨⟨rfl, _, rfl, rfl, rfl, rfl, id, rowsCv_one (.cons (.free rfl) (.cons (.ref rfl) .nil)), rowsZ_one rfl⟩, ⟨rfl, _, rfl, rfl, rfl, rfl, id, rowsCv_eq rfl (allFree_map mEntryV_free), rowsZ_map mEntryV_len⟩, ⟨rfl, _, rfl, rfl, rfl, rfl, id, rowsCv_one (.cons (.free rfl) (.cons (.free rfl) (.cons (.free rfl) (.cons (.free rfl) (.cons (.free rfl) (.cons (.free rfl) .nil)))))), rowsZ_one rfl⟩, ⟨rfl, _, rfl, rfl, rfl, rfl, id, rowsCv_one (.cons (.free rfl) (.cons (.free rfl) .nil)), rowsZ_one rfl⟩, trivial⟩ trivial rfl rfl ?_
            exact ⟨(.ptr rfl), (.ptr rfl), (.ptr rfl), trivial⟩
        · rintro ⟨j2_0, h⟩
          replace h : i_Keep_j2 x1 x4 j2_0 = some r0 := h
          unfold i_Keep_j2 at h
          show Tri _ _ _ (inv_i_Keep_2 x1 x4 j2_0)
          refine tri_seq ?_
          refine tri_region ?_
          refine s_fieldAddr rfl rfl fd43_1 rfl rfl rfl rfl ?_
          refine s_load rfl rfl rfl rfl ty41 rfl (.inr rfl) (by conv => lhs; whnf) rfl rfl rfl ?_
          refine s_loadR rfl rfl rfl rfl ty32 rfl rfl rfl ?_
          refine s_buildSlice (rows' := List.map mEntryV [MEntry.mk (Quest.mk x4.q.name x4.q.ty) x4.kind x4.l x4.rank x4.til]) rfl rfl rfl sl41 zc32 rfl rfl rfl rfl rfl rfl rfl rfl rfl ?_
          refine grd_elim h fun g12 h => ?_
          refine s_appL rfl rfl rfl sl41 zc32 rfl rfl rfl rfl rfl rfl (src_refL rfl rfl) g12 rfl rfl ?_
          refine s_fieldAddr rfl rfl fd43_1 rfl rfl rfl rfl ?_
          refine s_store (rows' := [[.sc (.int .i64 x1.cap), .ref (67, 0) 0 ((j2_0 ++ [MEntry.mk (Quest.mk x4.q.name x4.q.ty) x4.kind x4.l x4.rank x4.til]).length)]]) rfl rfl rfl rfl ty41 rfl rfl rfl rfl rfl rfl ?_
          refine rt_nil ?_
          refine tri_seq ?_
          refine tri_region ?_
          refine s_loadR rfl rfl rfl rfl ty43 rfl rfl rfl ?_
          refine s_storeB rfl rfl rfl ty43 rfl rfl rfl rfl rfl ?_
          refine rt_nil ?_
          refine tri_ret ?_
          have e0 := (some1 h); subst e0
          exact endY (v' := .agg [.sc (.int .i64 x1.cap), .ref (2000, 1) 0 ((j2_0 ++ [MEntry.mk (Quest.mk x4.q.name x4.q.ty) x4.kind x4.l x4.rank x4.til]).length)]) [((2000, 1), ⟨32, 6, List.map mEntryV (j2_0 ++ [MEntry.mk (Quest.mk x4.q.name x4.q.ty) x4.kind x4.l x4.rank x4.til]), false, true⟩, some (67, 0))] [] (rvC (resCell rfl rfl ty43) rvN) ⟨⟨rfl, _, rfl, rfl, rfl, rfl, id, rowsCv_eq rfl (allFree_map mEntryV_free), rowsZ_map mEntryV_len⟩, trivial⟩ trivial rfl rfl (by kernel_rfl) (by first | (simp only [V.mat, V.mat1, V.mat0, matL, matT, List.length_map]; done) | (simp only [V.mat, V.mat1, V.mat0, matL, matT, List.length_map]; rfl)) (CvL.agg (.cons (.free rfl) (.cons (.ref rfl) .nil)))

/- laws.sameRecs -/
def inv_w_sameRecs_0 (p0 : List Rec) (p1 : List Rec) (v0_0 : Nat) : St := mkT 26 [(0, .lst 6 (List.map recV p0)), (1, .lst 6 (List.map recV p1)), (5, .sc (.int .i64 (v0_0 : Int)))] []
set_option maxRecDepth 4000 in
set_option maxHeartbeats 800000 in
theorem ww_sameRecs (p0 : List Rec) (p1 : List Rec) (r0 : Bool) (h : w_sameRecs p0 p1 = some r0) : Runs Tryd.prog 72 [.lst 6 (List.map recV p0), .lst 6 (List.map recV p1)] [] (.sc (.bool r0)) [] := by
  unfold w_sameRecs at h
  refine runsR [.tmp 4] Tryd.func72 rfl rfl rfl rfl ?_
  rw [Tryd.ntmps72]
  refine tri_seq ?_
  refine tri_region ?_
  refine s_mv (.inr rfl) (v := .sc (.bool false)) rfl rfl rfl rfl ?_
  refine rt_nil ?_
  refine tri_seq ?_
  refine tri_seq ?_
  refine tri_region ?_
  refine s_mv (.inl rfl) (by conv => lhs; whnf) rfl rfl rfl ?_
  refine s_lenL rfl sl30 rfl rfl rfl rfl ?_
  refine s_mv (.inl rfl) (by conv => lhs; whnf) rfl rfl rfl ?_
  refine s_lenL rfl sl30 rfl rfl rfl rfl ?_
  refine s_of (st_neI rfl rfl rfl) rfl rfl rfl rfl ?_
  refine rt_nil ?_
  refine tri_cond rfl (fun c1 => ?_) (fun c1 => ?_)
  · replace h := cond_t h c1
    refine tri_seq ?_
    refine tri_region ?_
    refine s_mv (.inr rfl) (v := .sc (.bool false)) rfl rfl rfl rfl ?_
    refine rt_nil ?_
    refine tri_ret ?_
    have e0 := (some1 h); subst e0
    exact endY [] [] (rvC (resTmp rfl) rvN) trivial trivial rfl rfl rfl rfl (.free rfl)
  · replace h := cond_f h c1
    refine tri_skip ?_
    refine tri_seq ?_
    refine tri_seq ?_
    refine tri_region ?_
    refine s_mv (.inr rfl) (v := .sc (.int .i64 0)) rfl rfl rfl rfl ?_
    refine rt_nil ?_
    refine tri_block ?_
    refine tri_lstM 0 rfl (fun hl0 => ?_)
    refine tri_loop (ι := { p : (List Rec) × Nat // p0.drop p.2 = p.1 ∧ w_sameRecs_l0 p1 p.1 p.2 = some r0 }) (fun p => inv_w_sameRecs_0 p0 p1 p.1.2) (fun p => p.1.1.length) ⟨(p0, 0), rfl, h⟩ ?_ ?_
    · skip
      refine entX [] [] trivial trivial rfl rfl ?_
      exact ⟨(.free rfl), (.free rfl), (.free rfl), trivial⟩
    · rintro ⟨⟨lrs0, v0_0⟩, hd0, h⟩
      replace hd0 : p0.drop v0_0 = lrs0 := hd0
      replace h : w_sameRecs_l0 p1 lrs0 v0_0 = some r0 := h
      show Tri _ _ _ (inv_w_sameRecs_0 p0 p1 v0_0)
      refine tri_seq ?_
      refine tri_seq ?_
      refine tri_region ?_
      refine s_mv (.inl rfl) (by conv => lhs; whnf) rfl rfl rfl ?_
      refine s_mv (.inl rfl) (by conv => lhs; whnf) rfl rfl rfl ?_
      refine s_lenL rfl sl30 rfl rfl rfl rfl ?_
      refine s_of (st_lss rfl rfl rfl) rfl rfl rfl rfl ?_
      refine rt_nil ?_
      refine tri_cond rfl (fun c2 => ?_) (fun c2 => ?_)
      · refine drop_elim hd0 c2 fun e0 rs0 he hx0 hn0 => ?_
        subst he
        rw [w_sameRecs_l0] at h
        refine tri_skip ?_
        refine tri_seq ?_
        refine tri_block ?_
        refine tri_seq ?_
        refine tri_draw mixed ?_
        refine s_mv (.inl rfl) (by conv => lhs; whnf) rfl rfl rfl ?_
        refine s_mv (.inl rfl) (by conv => lhs; whnf) rfl rfl rfl ?_
        refine s_indexF (i := v0_0) rfl rfl rfl sl30 (get_ltM hx0) rfl rfl rfl ?_
        refine s_loadFR rfl rfl (rowG hx0) ty60 rfl rfl rfl ?_
        refine s_mv (.inl rfl) (by conv => lhs; whnf) rfl rfl rfl ?_
        refine s_mv (.inl rfl) (by conv => lhs; whnf) rfl rfl rfl ?_
        refine bnd1_elim h fun x3 q4 h => ?_
        have q4a := (idx_some q4).1; have q4b := (idx_some q4).2
        refine s_indexFZ rfl rfl rfl sl30 q4a (get_ltM q4b) rfl rfl rfl ?_
        refine s_loadFR rfl rfl (rowG q4b) ty60 rfl rfl rfl ?_
        refine s_neStruct (r' := (decide (e0.name = x3.name) && (decide (e0.ty = x3.ty) && (decide (e0.ttl = x3.ttl) && (decide (e0.n = x3.n) && (decide (e0.host = x3.host) && (decide (e0.text = x3.text) && true))))))) rfl rfl rfl fk60 rfl rfl rfl rfl rfl ?_
        refine rt_nil ⟨by kernel_rfl, ?_⟩
        refine tri_cond rfl (fun c5 => ?_) (fun c5 => ?_)
        · replace h := cond_t h c5
          refine tri_seq ?_
          refine tri_region ?_
          refine s_mv (.inr rfl) (v := .sc (.bool false)) rfl rfl rfl rfl ?_
          refine rt_nil ?_
          refine tri_ret ?_
          have e0 := (some1 h); subst e0
          exact endY [] [] (rvC (resTmp rfl) rvN) trivial trivial rfl rfl rfl rfl (.free rfl)
        · replace h := cond_f h c5
          refine tri_skip ?_
          refine tri_region ?_
          refine s_mv (.inl rfl) (by conv => lhs; whnf) rfl rfl rfl ?_
          refine s_inc (a := v0_0) (b := 1) rfl rfl rfl rfl (by have := get_lt hx0; have := hl0; omega) rfl rfl rfl ?_
          refine s_mv (.inr rfl) (by conv => lhs; whnf) rfl rfl rfl ?_
          refine rt_nil ?_
          refine Exists.intro ⟨(rs0, (v0_0 + 1)), hn0, h⟩ (And.intro (Nat.lt_succ_self _) ?_)
          refine entX [] [] trivial trivial rfl rfl ?_
          exact ⟨(.free rfl), (.free rfl), (.free rfl), trivial⟩
      · have he := drop_f hd0 c2; subst he
        rw [w_sameRecs_l0] at h
        refine tri_exit ?_
        refine tri_seq ?_
        refine tri_region ?_
        refine s_mv (.inr rfl) (v := .sc (.bool true)) rfl rfl rfl rfl ?_
        refine rt_nil ?_
        refine tri_ret ?_
        have e0 := (some1 h); subst e0
        exact endY [] [] (rvC (resTmp rfl) rvN) trivial trivial rfl rfl rfl rfl (.free rfl)

/- laws.sameEntry -/

set_option maxRecDepth 4000 in
set_option maxHeartbeats 800000 in
theorem ww_sameEntry (p0 : MEntry) (p1 : MEntry) (r0 : Bool) (h : w_sameEntry p0 p1 = some r0) : Runs Tryd.prog 29 [.agg (mEntryV p0), .agg (mEntryV p1)] [] (.sc (.bool r0)) [] := by
  unfold w_sameEntry at h
  refine runsR [.tmp 4] Tryd.func29 rfl rfl rfl rfl ?_
  rw [Tryd.ntmps29]
  refine tri_seq ?_
  refine tri_region ?_
  refine s_box rfl rfl rfl rfl rfl rfl rfl ?_
  refine s_box rfl rfl rfl rfl rfl rfl rfl ?_
  refine s_mv (.inr rfl) (v := .sc (.bool false)) rfl rfl rfl rfl ?_
  refine rt_nil ?_
  refine tri_seq ?_
  refine tri_region ?_
  refine s_fieldAddr rfl rfl fd32_0 rfl rfl rfl rfl ?_
  refine s_load (v := .agg (questV p0.q)) rfl rfl rfl rfl ty29 rfl (.inl rfl) rfl rfl rfl rfl ?_
  refine s_fieldAddr rfl rfl fd32_0 rfl rfl rfl rfl ?_
  refine s_load (v := .agg (questV p1.q)) rfl rfl rfl rfl ty29 rfl (.inl rfl) rfl rfl rfl rfl ?_
  refine s_eqStruct (r' := (decide (p0.q.name = p1.q.name) && (decide (p0.q.ty = p1.q.ty) && true))) rfl rfl rfl fk29 rfl rfl rfl rfl rfl ?_
  refine s_mv (.inl rfl) (by conv => lhs; whnf) rfl rfl rfl ?_
  refine s_split (t := 10) rfl (fun b1 => ?_) (fun b1 => ?_)
  · replace h := cond_t h b1
    refine s_fieldAddr rfl rfl fd32_1 rfl rfl rfl rfl ?_
    refine s_load rfl rfl rfl rfl ty3 rfl (.inr rfl) (by conv => lhs; whnf) rfl rfl rfl ?_
    refine s_fieldAddr rfl rfl fd32_1 rfl rfl rfl rfl ?_
    refine s_load rfl rfl rfl rfl ty3 rfl (.inr rfl) (by conv => lhs; whnf) rfl rfl rfl ?_
    refine s_of (st_eqI rfl rfl rfl) rfl rfl rfl rfl ?_
    refine s_pickT rfl rfl (by conv => lhs; whnf) rfl rfl rfl ?_
    refine s_mv (.inl rfl) (by conv => lhs; whnf) rfl rfl rfl ?_
    refine s_split (t := 17) rfl (fun b2 => ?_) (fun b2 => ?_)
    · replace h := cond_t h b2
      refine s_fieldAddr rfl rfl fd32_3 rfl rfl rfl rfl ?_
      refine s_load rfl rfl rfl rfl ty3 rfl (.inr rfl) (by conv => lhs; whnf) rfl rfl rfl ?_
      refine s_fieldAddr rfl rfl fd32_3 rfl rfl rfl rfl ?_
      refine s_load rfl rfl rfl rfl ty3 rfl (.inr rfl) (by conv => lhs; whnf) rfl rfl rfl ?_
      refine s_of (st_eqI rfl rfl rfl) rfl rfl rfl rfl ?_
      refine s_pickT rfl rfl (by conv => lhs; whnf) rfl rfl rfl ?_
      refine s_mv (.inl rfl) (by conv => lhs; whnf) rfl rfl rfl ?_
      refine s_split (t := 24) rfl (fun b3 => ?_) (fun b3 => ?_)
      · replace h := cond_t h b3
        refine s_fieldAddr rfl rfl fd32_4 rfl rfl rfl rfl ?_
        refine s_load rfl rfl rfl rfl ty3 rfl (.inr rfl) (by conv => lhs; whnf) rfl rfl rfl ?_
        refine s_fieldAddr rfl rfl fd32_4 rfl rfl rfl rfl ?_
        refine s_load rfl rfl rfl rfl ty3 rfl (.inr rfl) (by conv => lhs; whnf) rfl rfl rfl ?_
        refine s_of (st_eqI rfl rfl rfl) rfl rfl rfl rfl ?_
        refine s_pickT rfl rfl (by conv => lhs; whnf) rfl rfl rfl ?_
        refine s_mv (.inl rfl) (by conv => lhs; whnf) rfl rfl rfl ?_
        refine s_split (t := 31) rfl (fun b4 => ?_) (fun b4 => ?_)
        · replace h := cond_t h b4
          refine s_fieldAddr rfl rfl fd32_2 rfl rfl rfl rfl ?_
          refine s_load rfl rfl rfl rfl ty30 rfl (.inr rfl) (by conv => lhs; whnf) rfl rfl rfl ?_
          refine s_fieldAddr rfl rfl fd32_2 rfl rfl rfl rfl ?_
          refine s_load rfl rfl rfl rfl ty30 rfl (.inr rfl) (by conv => lhs; whnf) rfl rfl rfl ?_
          refine bnd1_elim h fun x5 q6 h => ?_
          refine s_callN (kb := []) (ns := []) (v := .sc (.bool x5)) rfl rfl cl72 (ww_sameRecs p0.l p1.l x5 q6) rfl (.cons (.free rfl) (.cons (.free rfl) .nil)) trivial memNil .nil memNil rfl trivial memNil rfl rfl rfl rfl rfl rfl ?_
          refine s_pickT rfl rfl (by conv => lhs; whnf) rfl rfl rfl ?_
          refine s_mv (.inr rfl) (by conv => lhs; whnf) rfl rfl rfl ?_
          refine rt_nil ?_
          refine tri_ret ?_
          have e0 := (some1 h); subst e0
          exact endY [] [] (rvC (resTmp rfl) rvN) trivial trivial rfl rfl rfl rfl (.free rfl)
        · replace h := cond_f h b4
          refine s_skip rfl rfl rfl ?_
          refine s_skip rfl rfl rfl ?_
          refine s_skip rfl rfl rfl ?_
          refine s_skip rfl rfl rfl ?_
          refine s_skip rfl rfl rfl ?_
          refine s_pickF rfl rfl (v := .sc (.bool false)) rfl rfl rfl rfl ?_
          refine s_mv (.inr rfl) (by conv => lhs; whnf) rfl rfl rfl ?_
          refine rt_nil ?_
          refine tri_ret ?_
          have e0 := (some1 h); subst e0
          exact endY [] [] (rvC (resTmp rfl) rvN) trivial trivial rfl rfl rfl rfl (.free rfl)
      · replace h := cond_f h b3
        refine s_skip rfl rfl rfl ?_
        refine s_skip rfl rfl rfl ?_
        refine s_skip rfl rfl rfl ?_
        refine s_skip rfl rfl rfl ?_
        refine s_skip rfl rfl rfl ?_
        refine s_pickF rfl rfl (v := .sc (.bool false)) rfl rfl rfl rfl ?_
        refine s_mv (.inl rfl) (by conv => lhs; whnf) rfl rfl rfl ?_
        refine s_skip rfl rfl rfl ?_
        refine s_skip rfl rfl rfl ?_
        refine s_skip rfl rfl rfl ?_
        refine s_skip rfl rfl rfl ?_
        refine s_skip rfl rfl rfl ?_
        refine s_pickF rfl rfl (v := .sc (.bool false)) rfl rfl rfl rfl ?_
        refine s_mv (.inr rfl) (by conv => lhs; whnf) rfl rfl rfl ?_
        refine rt_nil ?_
        refine tri_ret ?_
        have e0 := (some1 h); subst e0
        exact endY [] [] (rvC (resTmp rfl) rvN) trivial trivial rfl rfl rfl rfl (.free rfl)
    · replace h := cond_f h b2
      refine s_skip rfl rfl rfl ?_
      refine s_skip rfl rfl rfl ?_
      refine s_skip rfl rfl rfl ?_
      refine s_skip rfl rfl rfl ?_
      refine s_skip rfl rfl rfl ?_
      refine s_pickF rfl rfl (v := .sc (.bool false)) rfl rfl rfl rfl ?_
      refine s_mv (.inl rfl) (by conv => lhs; whnf) rfl rfl rfl ?_
      refine s_skip rfl rfl rfl ?_
      refine s_skip rfl rfl rfl ?_
      refine s_skip rfl rfl rfl ?_
      refine s_skip rfl rfl rfl ?_
      refine s_skip rfl rfl rfl ?_
      refine s_pickF rfl rfl (v := .sc (.bool false)) rfl rfl rfl rfl ?_
      refine s_mv (.inl rfl) (by conv => lhs; whnf) rfl rfl rfl ?_
      refine s_skip rfl rfl rfl ?_
      refine s_skip rfl rfl rfl ?_
      refine s_skip rfl rfl rfl ?_
      refine s_skip rfl rfl rfl ?_
      refine s_skip rfl rfl rfl ?_
      refine s_pickF rfl rfl (v := .sc (.bool false)) rfl rfl rfl rfl ?_
      refine s_mv (.inr rfl) (by conv => lhs; whnf) rfl rfl rfl ?_
      refine rt_nil ?_
      refine tri_ret ?_
      have e0 := (some1 h); subst e0
      exact endY [] [] (rvC (resTmp rfl) rvN) trivial trivial rfl rfl rfl rfl (.free rfl)
  · replace h := cond_f h b1
    refine s_skip rfl rfl rfl ?_
    refine s_skip rfl rfl rfl ?_
    refine s_skip rfl rfl rfl ?_
    refine s_skip rfl rfl rfl ?_
    refine s_skip rfl rfl rfl ?_
    refine s_pickF rfl rfl (v := .sc (.bool false)) rfl rfl rfl rfl ?_
    refine s_mv (.inl rfl) (by conv => lhs; whnf) rfl rfl rfl ?_
    refine s_skip rfl rfl rfl ?_
    refine s_skip rfl rfl rfl ?_
    refine s_skip rfl rfl rfl ?_
    refine s_skip rfl rfl rfl ?_
    refine s_skip rfl rfl rfl ?_
    refine s_pickF rfl rfl (v := .sc (.bool false)) rfl rfl rfl rfl ?_
    refine s_mv (.inl rfl) (by conv => lhs; whnf) rfl rfl rfl ?_
    refine s_skip rfl rfl rfl ?_
    refine s_skip rfl rfl rfl ?_
    refine s_skip rfl rfl rfl ?_
    refine s_skip rfl rfl rfl ?_
    refine s_skip rfl rfl rfl ?_
    refine s_pickF rfl rfl (v := .sc (.bool false)) rfl rfl rfl rfl ?_
    refine s_mv (.inl rfl) (by conv => lhs; whnf) rfl rfl rfl ?_
    refine s_skip rfl rfl rfl ?_
    refine s_skip rfl rfl rfl ?_
    refine s_skip rfl rfl rfl ?_
    refine s_skip rfl rfl rfl ?_
    refine s_skip rfl rfl rfl ?_
    refine s_pickF rfl rfl (v := .sc (.bool false)) rfl rfl rfl rfl ?_
    refine s_mv (.inr rfl) (by conv => lhs; whnf) rfl rfl rfl ?_
    refine rt_nil ?_
    refine tri_ret ?_
    have e0 := (some1 h); subst e0
    exact endY [] [] (rvC (resTmp rfl) rvN) trivial trivial rfl rfl rfl rfl (.free rfl)

/- laws.sameCache -/
def inv_w_sameCache_1 (p0 : MCache) (p1 : MCache) (v1_0 : Nat) : St := mkT 39 [(2, .ptr (2, 0) 0 0), (3, .ptr (3, 0) 0 0), (5, .sc (.int .i64 (v1_0 : Int)))] [((2, 0), some ⟨43, 2, [[.sc (.int .i64 p0.cap), .lst 6 (List.map mEntryV p0.l)]], false, true⟩), ((3, 0), some ⟨43, 2, [[.sc (.int .i64 p1.cap), .lst 6 (List.map mEntryV p1.l)]], false, true⟩)]
def inv_w_sameCache_0 (p0 : MCache) (p1 : MCache) (j0_0 : Bool) : St := mkT 39 [(2, .ptr (2, 0) 0 0), (3, .ptr (3, 0) 0 0), (19, .sc (.bool j0_0))] [((2, 0), some ⟨43, 2, [[.sc (.int .i64 p0.cap), .lst 6 (List.map mEntryV p0.l)]], false, true⟩), ((3, 0), some ⟨43, 2, [[.sc (.int .i64 p1.cap), .lst 6 (List.map mEntryV p1.l)]], false, true⟩)]
set_option maxRecDepth 4000 in
set_option maxHeartbeats 800000 in
theorem ww_sameCache (p0 : MCache) (p1 : MCache) (r0 : Bool) (h : w_sameCache p0 p1 = some r0) : Runs Tryd.prog 22 [.agg (mCacheV p0), .agg (mCacheV p1)] [] (.sc (.bool r0)) [] := by
  unfold w_sameCache at h
  refine runsR [.tmp 4] Tryd.func22 rfl rfl rfl rfl ?_
  rw [Tryd.ntmps22]
  refine tri_seq ?_
  refine tri_region ?_
  refine s_box rfl rfl rfl rfl rfl rfl rfl ?_
  refine s_box rfl rfl rfl rfl rfl rfl rfl ?_
  refine s_mv (.inr rfl) (v := .sc (.bool false)) rfl rfl rfl rfl ?_
  refine rt_nil ?_
  refine tri_seq ?_
  refine tri_cutI (ι := { p : Bool // w_sameCache_j0 p0 p1 p = some r0 }) (fun p => inv_w_sameCache_0 p0 p1 p.1) ?_ ?_
  · skip
    refine tri_region ?_
    refine s_fieldAddr rfl rfl fd43_0 rfl rfl rfl rfl ?_
    refine s_load rfl rfl rfl rfl ty3 rfl (.inr rfl) (by conv => lhs; whnf) rfl rfl rfl ?_
    refine s_fieldAddr rfl rfl fd43_0 rfl rfl rfl rfl ?_
    refine s_load rfl rfl rfl rfl ty3 rfl (.inr rfl) (by conv => lhs; whnf) rfl rfl rfl ?_
    refine s_of (st_neI rfl rfl rfl) rfl rfl rfl rfl ?_
    refine s_mv (.inl rfl) (by conv => lhs; whnf) rfl rfl rfl ?_
    refine s_split (t := 11) rfl (fun b1 => ?_) (fun b1 => ?_)
    · replace h := cond_t h b1
      refine s_skip rfl rfl rfl ?_
      refine s_skip rfl rfl rfl ?_
      refine s_skip rfl rfl rfl ?_
      refine s_skip rfl rfl rfl ?_
      refine s_skip rfl rfl rfl ?_
      refine s_skip rfl rfl rfl ?_
      refine s_skip rfl rfl rfl ?_
      refine s_pickT rfl rfl (v := .sc (.bool true)) rfl rfl rfl rfl ?_
      refine rt_nil ?_
      refine Exists.intro ⟨true, h⟩ ?_
      refine entX [((2, 0), ⟨43, 2, [[.sc (.int .i64 p0.cap), .lst 6 (List.map mEntryV p0.l)]], false, true⟩, some (2, 0)), ((3, 0), ⟨43, 2, [[.sc (.int .i64 p1.cap), .lst 6 (List.map mEntryV p1.l)]], false, true⟩, some (3, 0))] [] ⟨⟨rfl, _, rfl, rfl, rfl, rfl, id, rowsCv_one (.cons (.free rfl) (.cons (.free rfl) .nil)), rowsZ_one rfl⟩, ⟨rfl, _, rfl, rfl, rfl, rfl, id, rowsCv_one (.cons (.free rfl) (.cons (.free rfl) .nil)), rowsZ_one rfl⟩, trivial⟩ trivial rfl rfl ?_
      exact ⟨(.ptr rfl), (.ptr rfl), (.free rfl), trivial⟩
    · replace h := cond_f h b1
      refine s_fieldAddr rfl rfl fd43_1 rfl rfl rfl rfl ?_
      refine s_load rfl rfl rfl rfl ty41 rfl (.inr rfl) (by conv => lhs; whnf) rfl rfl rfl ?_
      refine s_lenL rfl sl41 rfl rfl rfl rfl ?_
      refine s_fieldAddr rfl rfl fd43_1 rfl rfl rfl rfl ?_
      refine s_load rfl rfl rfl rfl ty41 rfl (.inr rfl) (by conv => lhs; whnf) rfl rfl rfl ?_
      refine s_lenL rfl sl41 rfl rfl rfl rfl ?_
      refine s_of (st_neI rfl rfl rfl) rfl rfl rfl rfl ?_
      refine s_pickF rfl rfl (by conv => lhs; whnf) rfl rfl rfl ?_
      refine rt_nil ?_
      refine Exists.intro ⟨!decide ((p0.l.length : Int) = (p1.l.length : Int)), h⟩ ?_
      refine entX [((2, 0), ⟨43, 2, [[.sc (.int .i64 p0.cap), .lst 6 (List.map mEntryV p0.l)]], false, true⟩, some (2, 0)), ((3, 0), ⟨43, 2, [[.sc (.int .i64 p1.cap), .lst 6 (List.map mEntryV p1.l)]], false, true⟩, some (3, 0))] [] ⟨⟨rfl, _, rfl, rfl, rfl, rfl, id, rowsCv_one (.cons (.free rfl) (.cons (.free rfl) .nil)), rowsZ_one rfl⟩, ⟨rfl, _, rfl, rfl, rfl, rfl, id, rowsCv_one (.cons (.free rfl) (.cons (.free rfl) .nil)), rowsZ_one rfl⟩, trivial⟩ trivial rfl rfl ?_
      exact ⟨(.ptr rfl), (.ptr rfl), (.free rfl), trivial⟩
  · rintro ⟨j0_0, h⟩
    replace h : w_sameCache_j0 p0 p1 j0_0 = some r0 := h
    unfold w_sameCache_j0 at h
    show Tri _ _ _ (inv_w_sameCache_0 p0 p1 j0_0)
    refine tri_cond rfl (fun c1 => ?_) (fun c1 => ?_)
    · replace h := cond_t h c1
      refine tri_seq ?_
      refine tri_region ?_
      refine s_mv (.inr rfl) (v := .sc (.bool false)) rfl rfl rfl rfl ?_
      refine rt_nil ?_
      refine tri_ret ?_
      have e0 := (some1 h); subst e0
      exact endY [] [] (rvC (resTmp rfl) rvN) trivial trivial rfl rfl rfl rfl (.free rfl)
    · replace h := cond_f h c1
      refine tri_skip ?_
      refine tri_seq ?_
      refine tri_seq ?_
      refine tri_region ?_
      refine s_mv (.inr rfl) (v := .sc (.int .i64 0)) rfl rfl rfl rfl ?_
      refine rt_nil ?_
      refine tri_block ?_
      refine tri_boxM (2, 0) 1 rfl rfl (fun hl1 => ?_)
      refine tri_loop (ι := { p : (List MEntry) × Nat // p0.l.drop p.2 = p.1 ∧ w_sameCache_l1 p1 p.1 p.2 = some r0 }) (fun p => inv_w_sameCache_1 p0 p1 p.1.2) (fun p => p.1.1.length) ⟨(p0.l, 0), rfl, h⟩ ?_ ?_
      · skip
        refine entX [((2, 0), ⟨43, 2, [[.sc (.int .i64 p0.cap), .lst 6 (List.map mEntryV p0.l)]], false, true⟩, some (2, 0)), ((3, 0), ⟨43, 2, [[.sc (.int .i64 p1.cap), .lst 6 (List.map mEntryV p1.l)]], false, true⟩, some (3, 0))] [] ⟨⟨rfl, _, rfl, rfl, rfl, rfl, id, rowsCv_one (.cons (.free rfl) (.cons (.free rfl) .nil)), rowsZ_one rfl⟩, ⟨rfl, _, rfl, rfl, rfl, rfl, id, rowsCv_one (.cons (.free rfl) (.cons (.free rfl) .nil)), rowsZ_one rfl⟩, trivial⟩ trivial rfl rfl ?_
        exact ⟨(.ptr rfl), (.ptr rfl), (.free rfl), trivial⟩
      · rintro ⟨⟨lrs1, v1_0⟩, hd1, h⟩
        replace hd1 : p0.l.drop v1_0 = lrs1 := hd1
        replace h : w_sameCache_l1 p1 lrs1 v1_0 = some r0 := h
        show Tri _ _ _ (inv_w_sameCache_1 p0 p1 v1_0)
        refine tri_seq ?_
        refine tri_seq ?_
        refine tri_region ?_
        refine s_mv (.inl rfl) (by conv => lhs; whnf) rfl rfl rfl ?_
        refine s_fieldAddr rfl rfl fd43_1 rfl rfl rfl rfl ?_
        refine s_load rfl rfl rfl rfl ty41 rfl (.inr rfl) (by conv => lhs; whnf) rfl rfl rfl ?_
        refine s_lenL rfl sl41 rfl rfl rfl rfl ?_
        refine s_of (st_lss rfl rfl rfl) rfl rfl rfl rfl ?_
        refine rt_nil ?_
        refine tri_cond rfl (fun c2 => ?_) (fun c2 => ?_)
        · refine drop_elim hd1 c2 fun e1 rs1 he hx1 hn1 => ?_
          subst he
          rw [w_sameCache_l1] at h
          refine tri_skip ?_
          refine tri_seq ?_
          refine tri_block ?_
          refine tri_seq ?_
          refine tri_draw mixed ?_
          refine s_fieldAddr rfl rfl fd43_1 rfl rfl rfl rfl ?_
          refine s_load rfl rfl rfl rfl ty41 rfl (.inr rfl) (by conv => lhs; whnf) rfl rfl rfl ?_
          refine s_mv (.inl rfl) (by conv => lhs; whnf) rfl rfl rfl ?_
          refine s_indexF (i := v1_0) rfl rfl rfl sl41 (get_ltM hx1) rfl rfl rfl ?_
          refine s_loadFR rfl rfl (rowG hx1) ty32 rfl rfl rfl ?_
          refine s_fieldAddr rfl rfl fd43_1 rfl rfl rfl rfl ?_
          refine s_load rfl rfl rfl rfl ty41 rfl (.inr rfl) (by conv => lhs; whnf) rfl rfl rfl ?_
          refine s_mv (.inl rfl) (by conv => lhs; whnf) rfl rfl rfl ?_
          refine bnd1_elim h fun x3 q4 h => ?_
          have q4a := (idx_some q4).1; have q4b := (idx_some q4).2
          refine s_indexFZ rfl rfl rfl sl41 q4a (get_ltM q4b) rfl rfl rfl ?_
          refine s_loadFR rfl rfl (rowG q4b) ty32 rfl rfl rfl ?_
          refine bnd1_elim h fun x5 q6 h => ?_
          refine s_callN (kb := []) (ns := []) (v := .sc (.bool x5)) rfl rfl cl29 (ww_sameEntry e1 x3 x5 q6) rfl (.cons (relAgg rfl) (.cons (relAgg rfl) .nil)) trivial memNil .nil memNil rfl trivial memNil rfl rfl rfl rfl rfl rfl ?_
          refine s_of (st_not rfl rfl) rfl rfl rfl rfl ?_
          refine rt_nil ⟨by kernel_rfl, ?_⟩
          refine tri_cond rfl (fun c7 => ?_) (fun c7 => ?_)
          · replace h := cond_t h c7
            refine tri_seq ?_
            refine tri_region ?_
            refine s_mv (.inr rfl) (v := .sc (.bool false)) rfl rfl rfl rfl ?_
            refine rt_nil ?_
            refine tri_ret ?_
            have e0 := (some1 h); subst e0
            exact endY [] [] (rvC (resTmp rfl) rvN) trivial trivial rfl rfl rfl rfl (.free rfl)
          · replace h := cond_f h c7
            refine tri_skip ?_
            refine tri_region ?_
            refine s_mv (.inl rfl) (by conv => lhs; whnf) rfl rfl rfl ?_
            refine s_inc (a := v1_0) (b := 1) rfl rfl rfl rfl (by have := get_lt hx1; have := hl1; omega) rfl rfl rfl ?_
            refine s_mv (.inr rfl) (by conv => lhs; whnf) rfl rfl rfl ?_
            refine rt_nil ?_
            refine Exists.intro ⟨(rs1, (v1_0 + 1)), hn1, h⟩ (And.intro (Nat.lt_succ_self _) ?_)
            refine entX [((2, 0), ⟨43, 2, [[.sc (.int .i64 p0.cap), .lst 6 (List.map mEntryV p0.l)]], false, true⟩, some (2, 0)), ((3, 0), ⟨43, 2, [[.sc (.int .i64 p1.cap), .lst 6 (List.map mEntryV p1.l)]], false, true⟩, some (3, 0))] [] ⟨⟨rfl, _, rfl, rfl, rfl, rfl, id, rowsCv_one (.cons (.free rfl) (.cons (.free rfl) .nil)), rowsZ_one rfl⟩, ⟨rfl, _, rfl, rfl, rfl, rfl, id, rowsCv_one (.cons (.free rfl) (.cons (.free rfl) .nil)), rowsZ_one rfl⟩, trivial⟩ trivial rfl rfl ?_
            exact ⟨(.ptr rfl), (.ptr rfl), (.free rfl), trivial⟩
        · have he := drop_f hd1 c2; subst he
          rw [w_sameCache_l1] at h
          refine tri_exit ?_
          refine tri_seq ?_
          refine tri_region ?_
          refine s_mv (.inr rfl) (v := .sc (.bool true)) rfl rfl rfl rfl ?_
          refine rt_nil ?_
          refine tri_ret ?_
          have e0 := (some1 h); subst e0
          exact endY [] [] (rvC (resTmp rfl) rvN) trivial trivial rfl rfl rfl rfl (.free rfl)

/- impl.Entry] -/

set_option maxRecDepth 4000 in
set_option maxHeartbeats 800000 in
theorem wslices_ContainsFunc_Entry (p0 : List MEntry) (fi1 : FuncId) (cp1 : List V) (hf1 : cp1.all (·.free) = true) (hb1 : callable Tryd.prog fi1 = true) (p1 : MEntry → Option Bool) (hg1 : ∀ (z0 : MEntry) v, p1 z0 = some v → Runs Tryd.prog fi1 ([.agg (mEntryV z0)] ++ cp1) [] (.sc (.bool v)) []) (r0 : Bool) (h : slices_ContainsFunc_Entry p0 p1 = some r0) : Runs Tryd.prog 56 [.lst 6 (List.map mEntryV p0), .fn fi1 cp1] [] (.sc (.bool r0)) [] := by
  unfold slices_ContainsFunc_Entry at h
  refine runsR [.tmp 4] Tryd.func56 rfl rfl rfl rfl ?_
  rw [Tryd.ntmps56]
  refine tri_seq ?_
  refine tri_region ?_
  refine s_mv (.inr rfl) (v := .sc (.bool false)) rfl rfl rfl rfl ?_
  refine rt_nil ?_
  refine tri_seq ?_
  refine tri_region ?_
  refine s_mv (.inl rfl) (by conv => lhs; whnf) rfl rfl rfl ?_
  refine s_mv (.inl rfl) (by conv => lhs; whnf) rfl rfl rfl ?_
  refine bnd1_elim h fun x1 q2 h => ?_
  refine s_callN (kb := []) (ns := []) (v := .sc (.int .i64 x1)) rfl rfl cl75 (wslices_IndexFunc_Entry p0 fi1 cp1 hf1 hb1 p1 hg1 x1 q2) rfl (.cons (.free rfl) (.cons (relFn hf1) .nil)) trivial memNil .nil memNil rfl trivial memNil rfl rfl rfl rfl rfl rfl ?_
  refine s_of (st_geq rfl rfl rfl) rfl rfl rfl rfl ?_
  refine s_mv (.inr rfl) (by conv => lhs; whnf) rfl rfl rfl ?_
  refine rt_nil ?_
  refine tri_ret ?_
  have e0 := (some1 h); subst e0
  exact endY [] [] (rvC (resTmp rfl) rvN) trivial trivial rfl rfl rfl rfl (.free rfl)

/- impl.CacheOk$1 -/

set_option maxRecDepth 4000 in
set_option maxHeartbeats 800000 in
theorem wi_CacheOk_1 (p0 : MEntry) (p1 : MEntry) (r0 : Bool) (h : i_CacheOk_1 p0 p1 = some r0) : Runs Tryd.prog 57 [.agg (mEntryV p0), .lptr 6 [[.sc (.string p1.q.name), .sc (.int .i64 p1.q.ty), .sc (.int .i64 p1.kind), .lst 6 (List.map recV p1.l), .sc (.int .i64 p1.rank), .sc (.int .i64 p1.til)]] 0 0] [] (.sc (.bool r0)) [] := by
  unfold i_CacheOk_1 at h
  refine runsR [.tmp 3] Tryd.func57 rfl rfl rfl rfl ?_
  rw [Tryd.ntmps57]
  refine tri_seq ?_
  refine tri_region ?_
  refine s_box rfl rfl rfl rfl rfl rfl rfl ?_
  refine s_mv (.inr rfl) (v := .sc (.bool false)) rfl rfl rfl rfl ?_
  refine rt_nil ?_
  refine tri_seq ?_
  refine tri_region ?_
  refine s_fieldAddr rfl rfl fd32_0 rfl rfl rfl rfl ?_
  refine s_load (v := .agg (questV p0.q)) rfl rfl rfl rfl ty29 rfl (.inl rfl) rfl rfl rfl rfl ?_
  refine s_fieldAddrF rfl rfl fd32_0 rfl rfl rfl rfl ?_
  refine s_loadF (v := .agg (questV p1.q)) rfl rfl rfl ty29 rfl (.inl rfl) rfl rfl rfl rfl ?_
  refine s_eqStruct (r' := (decide (p0.q.name = p1.q.name) && (decide (p0.q.ty = p1.q.ty) && true))) rfl rfl rfl fk29 rfl rfl rfl rfl rfl ?_
  refine s_mv (.inr rfl) (by conv => lhs; whnf) rfl rfl rfl ?_
  refine rt_nil ?_
  refine tri_ret ?_
  have e0 := (some1 h); subst e0
  exact endY [] [] (rvC (resTmp rfl) rvN) trivial trivial rfl rfl rfl rfl (.free rfl)

/- impl.CacheOk -/
def inv_i_CacheOk_2 (p0 : MCache) (v1_0 : Nat) (j2_0 : Bool) : St := mkT 41 [(1, .ptr (1, 0) 0 0), (22, .lst 6 (List.map mEntryV p0.l)), (23, .sc (.int .i64 (p0.l.length : Int))), (24, .sc (.int .i64 (v1_0 : Int))), (39, .sc (.bool j2_0))] [((1, 0), some ⟨43, 2, [[.sc (.int .i64 p0.cap), .lst 6 (List.map mEntryV p0.l)]], false, true⟩)]
def inv_i_CacheOk_1 (p0 : MCache) (v1_0 : Nat) : St := mkT 41 [(1, .ptr (1, 0) 0 0), (22, .lst 6 (List.map mEntryV p0.l)), (23, .sc (.int .i64 (p0.l.length : Int))), (24, .sc (.int .i64 (v1_0 : Int)))] [((1, 0), some ⟨43, 2, [[.sc (.int .i64 p0.cap), .lst 6 (List.map mEntryV p0.l)]], false, true⟩)]
def inv_i_CacheOk_0 (p0 : MCache) (j0_0 : Bool) : St := mkT 41 [(1, .ptr (1, 0) 0 0), (20, .sc (.bool j0_0))] [((1, 0), some ⟨43, 2, [[.sc (.int .i64 p0.cap), .lst 6 (List.map mEntryV p0.l)]], false, true⟩)]
set_option maxRecDepth 4000 in
set_option maxHeartbeats 800000 in
theorem wi_CacheOk (p0 : MCache) (r0 : Bool) (h : i_CacheOk p0 = some r0) : Runs Tryd.prog 17 [.agg (mCacheV p0)] [] (.sc (.bool r0)) [] := by
  unfold i_CacheOk at h
  refine runsR [.tmp 2] Tryd.func17 rfl rfl rfl rfl ?_
  rw [Tryd.ntmps17]
  refine tri_seq ?_
  refine tri_region ?_
  refine s_box rfl rfl rfl rfl rfl rfl rfl ?_
  refine s_mv (.inr rfl) (v := .sc (.bool false)) rfl rfl rfl rfl ?_
  refine rt_nil ?_
  refine tri_seq ?_
  refine tri_cutI (ι := { p : Bool // i_CacheOk_j0 p0 p = some r0 }) (fun p => inv_i_CacheOk_0 p0 p.1) ?_ ?_
  · skip
    refine tri_region ?_
    refine s_fieldAddr rfl rfl fd43_0 rfl rfl rfl rfl ?_
    refine s_load rfl rfl rfl rfl ty3 rfl (.inr rfl) (by conv => lhs; whnf) rfl rfl rfl ?_
    refine s_of (st_lss rfl rfl rfl) rfl rfl rfl rfl ?_
    refine s_mv (.inl rfl) (by conv => lhs; whnf) rfl rfl rfl ?_
    refine s_split (t := 8) rfl (fun b1 => ?_) (fun b1 => ?_)
    · replace h := cond_t h b1
      refine s_skip rfl rfl rfl ?_
      refine s_skip rfl rfl rfl ?_
      refine s_skip rfl rfl rfl ?_
      refine s_pickT rfl rfl (v := .sc (.bool true)) rfl rfl rfl rfl ?_
      refine s_mv (.inl rfl) (by conv => lhs; whnf) rfl rfl rfl ?_
      refine s_skip rfl rfl rfl ?_
      refine s_skip rfl rfl rfl ?_
      refine s_skip rfl rfl rfl ?_
      refine s_skip rfl rfl rfl ?_
      refine s_skip rfl rfl rfl ?_
      refine s_skip rfl rfl rfl ?_
      refine s_pickT rfl rfl (v := .sc (.bool true)) rfl rfl rfl rfl ?_
      refine rt_nil ?_
      refine Exists.intro ⟨true, h⟩ ?_
      refine entX [((1, 0), ⟨43, 2, [[.sc (.int .i64 p0.cap), .lst 6 (List.map mEntryV p0.l)]], false, true⟩, some (1, 0))] [] ⟨⟨rfl, _, rfl, rfl, rfl, rfl, id, rowsCv_one (.cons (.free rfl) (.cons (.free rfl) .nil)), rowsZ_one rfl⟩, trivial⟩ trivial rfl rfl ?_
      exact ⟨(.ptr rfl), (.free rfl), trivial⟩
    · replace h := cond_f h b1
      refine s_fieldAddr rfl rfl fd43_0 rfl rfl rfl rfl ?_
      refine s_load rfl rfl rfl rfl ty3 rfl (.inr rfl) (by conv => lhs; whnf) rfl rfl rfl ?_
      refine s_of (st_gtr rfl rfl rfl) rfl rfl rfl rfl ?_
      refine s_pickF rfl rfl (by conv => lhs; whnf) rfl rfl rfl ?_
      refine s_mv (.inl rfl) (by conv => lhs; whnf) rfl rfl rfl ?_
      refine s_split (t := 13) rfl (fun b2 => ?_) (fun b2 => ?_)
      · replace h := cond_t h b2
        refine s_skip rfl rfl rfl ?_
        refine s_skip rfl rfl rfl ?_
        refine s_skip rfl rfl rfl ?_
        refine s_skip rfl rfl rfl ?_
        refine s_skip rfl rfl rfl ?_
        refine s_skip rfl rfl rfl ?_
        refine s_pickT rfl rfl (v := .sc (.bool true)) rfl rfl rfl rfl ?_
        refine rt_nil ?_
        refine Exists.intro ⟨true, h⟩ ?_
        refine entX [((1, 0), ⟨43, 2, [[.sc (.int .i64 p0.cap), .lst 6 (List.map mEntryV p0.l)]], false, true⟩, some (1, 0))] [] ⟨⟨rfl, _, rfl, rfl, rfl, rfl, id, rowsCv_one (.cons (.free rfl) (.cons (.free rfl) .nil)), rowsZ_one rfl⟩, trivial⟩ trivial rfl rfl ?_
        exact ⟨(.ptr rfl), (.free rfl), trivial⟩
      · replace h := cond_f h b2
        refine s_fieldAddr rfl rfl fd43_1 rfl rfl rfl rfl ?_
        refine s_load rfl rfl rfl rfl ty41 rfl (.inr rfl) (by conv => lhs; whnf) rfl rfl rfl ?_
        refine s_lenL rfl sl41 rfl rfl rfl rfl ?_
        refine s_fieldAddr rfl rfl fd43_0 rfl rfl rfl rfl ?_
        refine s_load rfl rfl rfl rfl ty3 rfl (.inr rfl) (by conv => lhs; whnf) rfl rfl rfl ?_
        refine s_of (st_gtr rfl rfl rfl) rfl rfl rfl rfl ?_
        refine s_pickF rfl rfl (by conv => lhs; whnf) rfl rfl rfl ?_
        refine rt_nil ?_
        refine Exists.intro ⟨decide (p0.cap < (p0.l.length : Int)), h⟩ ?_
        refine entX [((1, 0), ⟨43, 2, [[.sc (.int .i64 p0.cap), .lst 6 (List.map mEntryV p0.l)]], false, true⟩, some (1, 0))] [] ⟨⟨rfl, _, rfl, rfl, rfl, rfl, id, rowsCv_one (.cons (.free rfl) (.cons (.free rfl) .nil)), rowsZ_one rfl⟩, trivial⟩ trivial rfl rfl ?_
        exact ⟨(.ptr rfl), (.free rfl), trivial⟩
  · rintro ⟨j0_0, h⟩
    replace h : i_CacheOk_j0 p0 j0_0 = some r0 := h
    unfold i_CacheOk_j0 at h
    show Tri _ _ _ (inv_i_CacheOk_0 p0 j0_0)
    refine tri_cond rfl (fun c1 => ?_) (fun c1 => ?_)
    · replace h := cond_t h c1
      refine tri_seq ?_
      refine tri_region ?_
      refine s_mv (.inr rfl) (v := .sc (.bool false)) rfl rfl rfl rfl ?_
      refine rt_nil ?_
      refine tri_ret ?_
      have e0 := (some1 h); subst e0
      exact endY [] [] (rvC (resTmp rfl) rvN) trivial trivial rfl rfl rfl rfl (.free rfl)
    · replace h := cond_f h c1
      refine tri_skip ?_
      refine tri_seq ?_
      refine tri_seq ?_
      refine tri_region ?_
      refine s_fieldAddr rfl rfl fd43_1 rfl rfl rfl rfl ?_
      refine s_load rfl rfl rfl rfl ty41 rfl (.inr rfl) (by conv => lhs; whnf) rfl rfl rfl ?_
      refine s_lenL rfl sl41 rfl rfl rfl rfl ?_
      refine s_mv (.inl rfl) (v := .sc (.int .i64 0)) rfl rfl rfl rfl ?_
      refine rt_nil ?_
      refine tri_block ?_
      refine tri_lstM 22 rfl (fun hl1 => ?_)
      refine tri_loop (ι := { p : (List MEntry) × Nat // p0.l.drop p.2 = p.1 ∧ i_CacheOk_l1 p0 p.1 p.2 = some r0 }) (fun p => inv_i_CacheOk_1 p0 p.1.2) (fun p => p.1.1.length) ⟨(p0.l, 0), rfl, h⟩ ?_ ?_
      · skip
        refine entX [((1, 0), ⟨43, 2, [[.sc (.int .i64 p0.cap), .lst 6 (List.map mEntryV p0.l)]], false, true⟩, some (1, 0))] [] ⟨⟨rfl, _, rfl, rfl, rfl, rfl, id, rowsCv_one (.cons (.free rfl) (.cons (.free rfl) .nil)), rowsZ_one rfl⟩, trivial⟩ trivial rfl rfl ?_
        exact ⟨(.ptr rfl), (.free rfl), (.free rfl), (.free rfl), trivial⟩
      · rintro ⟨⟨lrs1, v1_0⟩, hd1, h⟩
        replace hd1 : p0.l.drop v1_0 = lrs1 := hd1
        replace h : i_CacheOk_l1 p0 lrs1 v1_0 = some r0 := h
        show Tri _ _ _ (inv_i_CacheOk_1 p0 v1_0)
        refine tri_seq ?_
        refine tri_region ?_
        refine s_of (st_lss rfl rfl rfl) rfl rfl rfl rfl ?_
        refine rt_nil ?_
        refine tri_seq ?_
        refine tri_cond rfl (fun c2 => ?_) (fun c2 => ?_)
        · refine drop_elim hd1 c2 fun e1 rs1 he hx1 hn1 => ?_
          subst he
          rw [i_CacheOk_l1] at h
          refine tri_skip ?_
          refine tri_seq ?_
          refine tri_block ?_
          refine tri_seq ?_
          refine tri_region ?_
          refine s_mv (.inl rfl) (by conv => lhs; whnf) rfl rfl rfl ?_
          refine s_indexF (i := v1_0) rfl rfl rfl sl41 (get_ltM hx1) rfl rfl rfl ?_
          refine s_loadFR rfl rfl (rowG hx1) ty32 rfl rfl rfl ?_
          refine s_alloc rfl rfl rfl zc32 rfl rfl rfl rfl rfl ?_
          refine s_mv (.inr rfl) (by conv => lhs; whnf) rfl rfl rfl ?_
          refine s_storeB rfl rfl rfl ty32 rfl rfl rfl rfl rfl ?_
          refine rt_nil ?_
          refine tri_cutI (ι := { p : Bool // i_CacheOk_j2 v1_0 (i_CacheOk_l1 p0 rs1) p = some r0 }) (fun p => inv_i_CacheOk_2 p0 v1_0 p.1) ?_ ?_
          · skip
            refine tri_region ?_
            refine s_loadR rfl rfl rfl rfl ty32 rfl rfl rfl ?_
            refine bnd1_elim h fun x3 q4 h => ?_
            refine s_callN (kb := []) (ns := []) (v := .sc (.bool x3)) rfl rfl cl12 (wi_EntryOk e1 x3 q4) rfl (.cons (relAgg rfl) .nil) trivial memNil .nil memNil rfl trivial memNil rfl rfl rfl rfl rfl rfl ?_
            refine s_of (st_not rfl rfl) rfl rfl rfl rfl ?_
            refine s_mv (.inl rfl) (by conv => lhs; whnf) rfl rfl rfl ?_
            refine s_split (t := 32) rfl (fun b5 => ?_) (fun b5 => ?_)
            · replace h := cond_t h b5
              refine s_skip rfl rfl rfl ?_
              refine s_skip rfl rfl rfl ?_
              refine s_skip rfl rfl rfl ?_
              refine s_skip rfl rfl rfl ?_
              refine s_skip rfl rfl rfl ?_
              refine s_skip rfl rfl rfl ?_
              refine s_pickT rfl rfl (v := .sc (.bool true)) rfl rfl rfl rfl ?_
              refine rt_nil ?_
              refine Exists.intro ⟨true, h⟩ ?_
              refine entX [((1, 0), ⟨43, 2, [[.sc (.int .i64 p0.cap), .lst 6 (List.map mEntryV p0.l)]], false, true⟩, some (1, 0))] [] ⟨⟨rfl, _, rfl, rfl, rfl, rfl, id, rowsCv_one (.cons (.free rfl) (.cons (.free rfl) .nil)), rowsZ_one rfl⟩, trivial⟩ trivial rfl rfl ?_
              exact ⟨(.ptr rfl), (.free rfl), (.free rfl), (.free rfl), (.free rfl), trivial⟩
            · replace h := cond_f h b5
              refine s_fieldAddr rfl rfl fd43_1 rfl rfl rfl rfl ?_
              refine s_load rfl rfl rfl rfl ty41 rfl (.inr rfl) (by conv => lhs; whnf) rfl rfl rfl ?_
              refine s_mv (.inl rfl) (by conv => lhs; whnf) rfl rfl rfl ?_
              refine grd_elim h fun g6 h => ?_
              refine s_sliceFZ (a := ((0 : Nat) : Int)) (b := (v1_0 : Int)) rfl rfl sl41 rfl ⟨_, rfl⟩ g6 rfl rfl rfl ?_
              refine s_makeFunc (caps := [.ptr (4, 0) 0 0]) rfl rfl rfl rfl rfl ?_
              refine bnd1_elim h fun x7 q8 h => ?_
              refine s_callN (kb := [(4, 0)]) (ns := []) (v := .sc (.bool x7)) rfl rfl cl56 (wslices_ContainsFunc_Entry ((p0.l.drop ((0 : Nat) : Int).toNat).take ((v1_0 : Int).toNat - ((0 : Nat) : Int).toNat)) 57 ([.lptr 6 [[.sc (.string e1.q.name), .sc (.int .i64 e1.q.ty), .sc (.int .i64 e1.kind), .lst 6 (List.map recV e1.l), .sc (.int .i64 e1.rank), .sc (.int .i64 e1.til)]] 0 0]) rfl cl57 (fun a0 => i_CacheOk_1 a0 e1) (fun a0 v0 hv => wi_CacheOk_1 a0 e1 v0 hv) x7 q8) rfl (.cons (.free rfl) (.cons (relFnL rfl (.cons (relBoxL rfl (.head _) (.cons (.free rfl) (.cons (.free rfl) (.cons (.free rfl) (.cons (.free rfl) (.cons (.free rfl) (.cons (.free rfl) .nil)))))) rfl rfl) .nil)) .nil)) trivial memNil .nil (fun _ _ => List.not_mem_nil) rfl trivial memNil rfl rfl rfl rfl rfl rfl ?_
              refine s_pickF rfl rfl (by conv => lhs; whnf) rfl rfl rfl ?_
              refine rt_nil ?_
              refine Exists.intro ⟨x7, h⟩ ?_
              refine entX [((1, 0), ⟨43, 2, [[.sc (.int .i64 p0.cap), .lst 6 (List.map mEntryV p0.l)]], false, true⟩, some (1, 0))] [] ⟨⟨rfl, _, rfl, rfl, rfl, rfl, id, rowsCv_one (.cons (.free rfl) (.cons (.free rfl) .nil)), rowsZ_one rfl⟩, trivial⟩ trivial rfl rfl ?_
              exact ⟨(.ptr rfl), (.free rfl), (.free rfl), (.free rfl), (.free rfl), trivial⟩
          · rintro ⟨j2_0, h⟩
            replace h : i_CacheOk_j2 v1_0 (i_CacheOk_l1 p0 rs1) j2_0 = some r0 := h
            unfold i_CacheOk_j2 at h
            show Tri _ _ _ (inv_i_CacheOk_2 p0 v1_0 j2_0)
            refine tri_cond rfl (fun c3 => ?_) (fun c3 => ?_)
            · replace h := cond_t h c3
              refine tri_seq ?_
              refine tri_region ?_
              refine s_mv (.inr rfl) (v := .sc (.bool false)) rfl rfl rfl rfl ?_
              refine rt_nil ?_
              refine tri_ret ?_
              have e0 := (some1 h); subst e0
              exact endY [] [] (rvC (resTmp rfl) rvN) trivial trivial rfl rfl rfl rfl (.free rfl)
            · replace h := cond_f h c3
              refine tri_skip ?_
              refine tri_region ?_
              refine s_inc (a := v1_0) (b := 1) rfl rfl rfl rfl (by have := get_lt hx1; have := hl1; omega) rfl rfl rfl ?_
              refine s_mv (.inl rfl) (by conv => lhs; whnf) rfl rfl rfl ?_
              refine rt_nil ?_
              refine Exists.intro ⟨(rs1, (v1_0 + 1)), hn1, h⟩ (And.intro (Nat.lt_succ_self _) ?_)
              refine entX [((1, 0), ⟨43, 2, [[.sc (.int .i64 p0.cap), .lst 6 (List.map mEntryV p0.l)]], false, true⟩, some (1, 0))] [] ⟨⟨rfl, _, rfl, rfl, rfl, rfl, id, rowsCv_one (.cons (.free rfl) (.cons (.free rfl) .nil)), rowsZ_one rfl⟩, trivial⟩ trivial rfl rfl ?_
              exact ⟨(.ptr rfl), (.free rfl), (.free rfl), (.free rfl), trivial⟩
        · have he := drop_f hd1 c2; subst he
          rw [i_CacheOk_l1] at h
          refine tri_exit ?_
          refine tri_seq ?_
          refine tri_region ?_
          refine s_mv (.inr rfl) (v := .sc (.bool true)) rfl rfl rfl rfl ?_
          refine rt_nil ?_
          refine tri_ret ?_
          have e0 := (some1 h); subst e0
          exact endY [] [] (rvC (resTmp rfl) rvN) trivial trivial rfl rfl rfl rfl (.free rfl)

/- impl.WithTtl -/
def inv_i_WithTtl_0 (p1 : Int) (x1 : List Rec) (v0_0 : List Rec) (v0_1 : Nat) : St := mkT 21 [(1, .sc (.int .i64 p1)), (5, .ref (8, 0) 0 v0_0.length), (10, .sc (.int .i64 (x1.length : Int))), (11, .sc (.int .i64 (v0_1 : Int)))] [((8, 0), some ⟨60, 6, List.map recV v0_0, false, true⟩)]
set_option maxRecDepth 4000 in
set_option maxHeartbeats 800000 in
theorem wi_WithTtl (p0 : List Rec) (p1 : Int) (r0 : List Rec) (h : i_WithTtl p0 p1 = some r0) : Runs Tryd.prog 69 [.lst 6 (List.map recV p0), .sc (.int .i64 p1)] [] (.own 60 6 (List.map recV r0)) [] := by
  unfold i_WithTtl at h
  refine runsR [.tmp 4] Tryd.func69 rfl rfl rfl rfl ?_
  rw [Tryd.ntmps69]
  refine tri_seq ?_
  refine tri_region ?_
  refine s_mv (.inr rfl) (v := .nils) rfl rfl rfl rfl ?_
  refine rt_nil ?_
  refine tri_seq ?_
  refine tri_region ?_
  refine s_mv (.inl rfl) (by conv => lhs; whnf) rfl rfl rfl ?_
  refine bnd1_elim h fun x1 q2 h => ?_
  refine s_callN (kb := []) (ns := []) (v := .ref (8, 0) 0 x1.length) rfl rfl cl105 (wslices_Clone_Record p0 x1 q2) rfl (.cons (.free rfl) .nil) trivial memNil .nil memNil rfl ⟨(allSc_map recV_sc), trivial⟩ memNil rfl (by first | (simp only [V.mat, V.mat1, V.mat0, matL, matT, List.length_map]; done) | (simp only [V.mat, V.mat1, V.mat0, matL, matT, List.length_map]; rfl)) rfl rfl rfl rfl ?_
  refine s_mv (.inr rfl) (by conv => lhs; whnf) rfl rfl rfl ?_
  refine rt_nil ?_
  refine tri_seq ?_
  refine tri_seq ?_
  refine tri_region ?_
  refine s_mv (.inl rfl) (by conv => lhs; whnf) rfl rfl rfl ?_
  refine s_len (m := x1.length) rfl sl30 rfl rfl rfl rfl ?_
  refine s_mv (.inl rfl) (v := .sc (.int .i64 0)) rfl rfl rfl rfl ?_
  refine rt_nil ?_
  refine tri_block ?_
  refine tri_ownM (8, 0) rfl (fun hl0 => ?_)
  refine tri_loop (ι := { p : (List Rec) × (List Rec) × Nat // x1.drop p.2.2 = p.1 ∧ i_WithTtl_l0 p1 p.1 p.2.1 p.2.2 = some r0 }) (fun p => inv_i_WithTtl_0 p1 x1 p.1.2.1 p.1.2.2) (fun p => p.1.1.length) ⟨(x1, x1, 0), rfl, h⟩ ?_ ?_
  · skip
    refine entX [((8, 0), ⟨60, 6, List.map recV x1, false, true⟩, some (8, 0))] [] ⟨⟨rfl, _, rfl, rfl, rfl, rfl, id, rowsCv_eq rfl (allFree_map recV_free), rowsZ_map recV_len⟩, trivial⟩ trivial rfl rfl ?_
    exact ⟨(.free rfl), (.ref rfl), (.free rfl), (.free rfl), trivial⟩
  · rintro ⟨⟨lrs0, v0_0, v0_1⟩, hd0, h⟩
    replace hd0 : x1.drop v0_1 = lrs0 := hd0
    replace h : i_WithTtl_l0 p1 lrs0 v0_0 v0_1 = some r0 := h
    show Tri _ _ _ (inv_i_WithTtl_0 p1 x1 v0_0 v0_1)
    refine tri_seq ?_
    refine tri_region ?_
    refine s_of (st_lss rfl rfl rfl) rfl rfl rfl rfl ?_
    refine rt_nil ?_
    refine tri_seq ?_
    refine tri_cond rfl (fun c3 => ?_) (fun c3 => ?_)
    · refine drop_elim hd0 c3 fun e0 rs0 he hx0 hn0 => ?_
      subst he
      rw [i_WithTtl_l0] at h
      refine tri_skip ?_
      refine tri_seq ?_
      refine tri_block ?_
      refine tri_seq ?_
      refine tri_region ?_
      refine s_mv (.inl rfl) (by conv => lhs; whnf) rfl rfl rfl ?_
      refine s_mv (.inr rfl) (by conv => lhs; whnf) rfl rfl rfl ?_
      refine rt_nil ?_
      refine tri_region ?_
      refine s_mv (.inl rfl) (by conv => lhs; whnf) rfl rfl rfl ?_
      refine s_mv (.inl rfl) (by conv => lhs; whnf) rfl rfl rfl ?_
      refine s_mv (.inl rfl) (by conv => lhs; whnf) rfl rfl rfl ?_
      refine bnd1_elim h fun x4 q5 h => ?_
      have q5a := (idx_some q5).1; have q5b := (idx_some q5).2
      refine s_indexZ rfl rfl rfl rfl sl30 rfl q5a (get_lt q5b) rfl rfl rfl ?_
      refine s_fieldAddr rfl rfl fd60_2 rfl rfl rfl rfl ?_
      refine s_storeL (x' := Rec.mk x4.name x4.ty p1 x4.n x4.host x4.text) rfl rfl rfl q5b ty3 rfl rfl rfl rfl rfl rfl ?_
      refine rt_nil ?_
      refine tri_region ?_
      refine s_inc (a := v0_1) (b := 1) rfl rfl rfl rfl (by have := get_lt hx0; have := hl0; omega) rfl rfl rfl ?_
      refine s_mv (.inl rfl) (by conv => lhs; whnf) rfl rfl rfl ?_
      refine rt_nil ?_
      refine Exists.intro ⟨(rs0, v0_0.set ((v0_1 : Int).toNat) (Rec.mk x4.name x4.ty p1 x4.n x4.host x4.text), (v0_1 + 1)), hn0, h⟩ (And.intro (Nat.lt_succ_self _) ?_)
      refine entX [((8, 0), ⟨60, 6, List.map recV (v0_0.set ((v0_1 : Int).toNat) (Rec.mk x4.name x4.ty p1 x4.n x4.host x4.text)), false, true⟩, some (8, 0))] [] ⟨⟨rfl, _, rfl, rfl, rfl, rfl, id, rowsCv_eq rfl (allFree_map recV_free), rowsZ_map recV_len⟩, trivial⟩ trivial rfl rfl ?_
      exact ⟨(.free rfl), (cvRefLen rfl (by simp only [List.length_set])), (.free rfl), (.free rfl), trivial⟩
    · have he := drop_f hd0 c3; subst he
      rw [i_WithTtl_l0] at h
      refine tri_exit ?_
      refine tri_seq ?_
      refine tri_region ?_
      refine s_mv (.inl rfl) (by conv => lhs; whnf) rfl rfl rfl ?_
      refine s_mv (.inr rfl) (by conv => lhs; whnf) rfl rfl rfl ?_
      refine rt_nil ?_
      refine tri_ret ?_
      have e0 := (some1 h); subst e0
      exact endY (v' := .ref (2000, 0) 0 v0_0.length) [((2000, 0), ⟨60, 6, List.map recV v0_0, false, true⟩, some (8, 0))] [] (rvC (resTmp rfl) rvN) ⟨⟨rfl, _, rfl, rfl, rfl, rfl, id, rowsCv_eq rfl (allFree_map recV_free), rowsZ_map recV_len⟩, trivial⟩ trivial rfl rfl (by kernel_rfl) (by first | (simp only [V.mat, V.mat1, V.mat0, matL, matT, List.length_map]; done) | (simp only [V.mat, V.mat1, V.mat0, matL, matT, List.length_map]; rfl)) (.ref rfl)

/- impl.Look -/
def inv_i_Look_4 (p1 : Int) (x2 : MEntry) (j4_0 : Bool) : St := mkT 54 [(8, .ptr (8, 0) 0 0), (11, .ptr (11, 0) 0 0), (12, .sc (.int .i64 (IntKind.i64.wrap (x2.til - p1)))), (45, .sc (.bool j4_0))] [((8, 0), some ⟨32, 6, [[.sc (.string (⟨#[]⟩ : ByteArray)), .sc (.int .i64 0), .sc (.int .i64 0), .nils, .sc (.int .i64 0), .sc (.int .i64 0)]], false, true⟩), ((11, 0), some ⟨32, 6, [[.sc (.string x2.q.name), .sc (.int .i64 x2.q.ty), .sc (.int .i64 x2.kind), .lst 6 (List.map recV x2.l), .sc (.int .i64 x2.rank), .sc (.int .i64 x2.til)]], false, true⟩)]
def inv_i_Look_3 (x2 : MEntry) (j3_0 : Int) : St := mkT 54 [(8, .ptr (8, 0) 0 0), (11, .ptr (11, 0) 0 0), (12, .sc (.int .i64 j3_0))] [((8, 0), some ⟨32, 6, [[.sc (.string (⟨#[]⟩ : ByteArray)), .sc (.int .i64 0), .sc (.int .i64 0), .nils, .sc (.int .i64 0), .sc (.int .i64 0)]], false, true⟩), ((11, 0), some ⟨32, 6, [[.sc (.string x2.q.name), .sc (.int .i64 x2.q.ty), .sc (.int .i64 x2.kind), .lst 6 (List.map recV x2.l), .sc (.int .i64 x2.rank), .sc (.int .i64 x2.til)]], false, true⟩)]
def inv_i_Look_2 (p0 : MCache) (p1 : Int) (p2 : Quest) (p3 : Int) (v1_0 : Int) (x2 : MEntry) (j2_0 : Bool) : St := mkT 54 [(1, .sc (.int .i64 p1)), (3, .sc (.int .i64 p3)), (6, .ptr (6, 0) 0 0), (8, .ptr (8, 0) 0 0), (11, .ptr (11, 0) 0 0), (14, .lst 6 (List.map mEntryV p0.l)), (15, .sc (.int .i64 (p0.l.length : Int))), (16, .sc (.int .i64 v1_0)), (35, .sc (.bool j2_0))] [((6, 0), some ⟨29, 2, [[.sc (.string p2.name), .sc (.int .i64 p2.ty)]], false, true⟩), ((8, 0), some ⟨32, 6, [[.sc (.string (⟨#[]⟩ : ByteArray)), .sc (.int .i64 0), .sc (.int .i64 0), .nils, .sc (.int .i64 0), .sc (.int .i64 0)]], false, true⟩), ((11, 0), some ⟨32, 6, [[.sc (.string x2.q.name), .sc (.int .i64 x2.q.ty), .sc (.int .i64 x2.kind), .lst 6 (List.map recV x2.l), .sc (.int .i64 x2.rank), .sc (.int .i64 x2.til)]], false, true⟩)]
def inv_i_Look_1 (p0 : MCache) (p1 : Int) (p2 : Quest) (p3 : Int) (v1_0 : Int) : St := mkT 54 [(1, .sc (.int .i64 p1)), (3, .sc (.int .i64 p3)), (6, .ptr (6, 0) 0 0), (8, .ptr (8, 0) 0 0), (14, .lst 6 (List.map mEntryV p0.l)), (15, .sc (.int .i64 (p0.l.length : Int))), (16, .sc (.int .i64 v1_0))] [((6, 0), some ⟨29, 2, [[.sc (.string p2.name), .sc (.int .i64 p2.ty)]], false, true⟩), ((8, 0), some ⟨32, 6, [[.sc (.string (⟨#[]⟩ : ByteArray)), .sc (.int .i64 0), .sc (.int .i64 0), .nils, .sc (.int .i64 0), .sc (.int .i64 0)]], false, true⟩)]
def inv_i_Look_0  : St := mkT 54 [(8, .ptr (8, 0) 0 0)] [((8, 0), some ⟨32, 6, [[.sc (.string (⟨#[]⟩ : ByteArray)), .sc (.int .i64 0), .sc (.int .i64 0), .nils, .sc (.int .i64 0), .sc (.int .i64 0)]], false, true⟩)]
set_option maxRecDepth 4000 in
set_option maxHeartbeats 800000 in
theorem wi_Look (p0 : MCache) (p1 : Int) (p2 : Quest) (p3 : Int) (r0 : MEntry) (r1 : Bool) (h : i_Look p0 p1 p2 p3 = some (r0, r1)) : Runs Tryd.prog 25 [.agg (mCacheV p0), .sc (.int .i64 p1), .agg (questV p2), .sc (.int .i64 p3)] [] (.tup [.agg [.sc (.string r0.q.name), .sc (.int .i64 r0.q.ty), .sc (.int .i64 r0.kind), .own 60 6 (List.map recV r0.l), .sc (.int .i64 r0.rank), .sc (.int .i64 r0.til)], .sc (.bool r1)]) [] := by
  unfold i_Look at h
  refine runsR [.cell 8 32, .tmp 9] Tryd.func25 rfl rfl rfl rfl ?_
  rw [Tryd.ntmps25]
  refine tri_seq ?_
  refine tri_region ?_
  refine s_box rfl rfl rfl rfl rfl rfl rfl ?_
  refine s_box rfl rfl rfl rfl rfl rfl rfl ?_
  refine s_alloc rfl rfl rfl zc32 rfl rfl rfl rfl rfl ?_
  refine s_mv (.inr rfl) (v := .sc (.bool false)) rfl rfl rfl rfl ?_
  refine rt_nil ?_
  refine tri_cutI (ι := { p : Unit // i_Look_j0 = some (r0, r1) }) (fun p => inv_i_Look_0) ?_ ?_
  · skip
    refine tri_seq ?_
    refine tri_region ?_
    refine s_fieldAddr rfl rfl fd43_1 rfl rfl rfl rfl ?_
    refine s_load rfl rfl rfl rfl ty41 rfl (.inr rfl) (by conv => lhs; whnf) rfl rfl rfl ?_
    refine s_lenL rfl sl41 rfl rfl rfl rfl ?_
    refine s_mv (.inl rfl) (v := .sc (.int .i64 0)) rfl rfl rfl rfl ?_
    refine rt_nil ?_
    refine tri_block ?_
    refine tri_loop (ι := { p : Nat × Int // i_Look_l1 p0 p1 p2 p3 p.1 p.2 = some (r0, r1) }) (fun p => inv_i_Look_1 p0 p1 p2 p3 p.1.2) (fun p => p.1.1) ⟨(fuel0, 0), h⟩ ?_ ?_
    · skip
      refine entX [((6, 0), ⟨29, 2, [[.sc (.string p2.name), .sc (.int .i64 p2.ty)]], false, true⟩, some (6, 0)), ((8, 0), ⟨32, 6, [[.sc (.string (⟨#[]⟩ : ByteArray)), .sc (.int .i64 0), .sc (.int .i64 0), .nils, .sc (.int .i64 0), .sc (.int .i64 0)]], false, true⟩, some (8, 0))] [] ⟨⟨rfl, _, rfl, rfl, rfl, rfl, id, rowsCv_one (.cons (.free rfl) (.cons (.free rfl) .nil)), rowsZ_one rfl⟩, ⟨rfl, _, rfl, rfl, rfl, rfl, id, rowsCv_one (.cons (.free rfl) (.cons (.free rfl) (.cons (.free rfl) (.cons (.free rfl) (.cons (.free rfl) (.cons (.free rfl) .nil)))))), rowsZ_one rfl⟩, trivial⟩ trivial rfl rfl ?_
      exact ⟨(.free rfl), (.free rfl), (.ptr rfl), (.ptr rfl), (.free rfl), (.free rfl), (.free rfl), trivial⟩
    · rintro ⟨⟨f1, v1_0⟩, h⟩
      replace h : i_Look_l1 p0 p1 p2 p3 f1 v1_0 = some (r0, r1) := h
      cases f1 with
      | zero => cases h
      | succ f1 =>
      rw [i_Look_l1] at h
      show Tri _ _ _ (inv_i_Look_1 p0 p1 p2 p3 v1_0)
      refine tri_seq ?_
      refine tri_region ?_
      refine s_of (st_lss rfl rfl rfl) rfl rfl rfl rfl ?_
      refine rt_nil ?_
      refine tri_seq ?_
      refine tri_cond rfl (fun c1 => ?_) (fun c1 => ?_)
      · replace h := cond_t h c1
        refine tri_skip ?_
        refine tri_seq ?_
        refine tri_block ?_
        refine tri_seq ?_
        refine tri_region ?_
        refine bnd1_elim h fun x2 q3 h => ?_
        have q3a := (idx_some q3).1; have q3b := (idx_some q3).2
        refine s_indexFZ rfl rfl rfl sl41 q3a (get_ltM q3b) rfl rfl rfl ?_
        refine s_loadFR rfl rfl (rowG q3b) ty32 rfl rfl rfl ?_
        refine s_alloc rfl rfl rfl zc32 rfl rfl rfl rfl rfl ?_
        refine s_storeB rfl rfl rfl ty32 rfl rfl rfl rfl rfl ?_
        refine rt_nil ?_
        refine tri_seq ?_
        refine tri_cutI (ι := { p : Bool // i_Look_j2 p1 v1_0 x2 (i_Look_l1 p0 p1 p2 p3 f1) p = some (r0, r1) }) (fun p => inv_i_Look_2 p0 p1 p2 p3 v1_0 x2 p.1) ?_ ?_
        · skip
          refine tri_region ?_
          refine s_fieldAddr rfl rfl fd32_0 rfl rfl rfl rfl ?_
          refine s_load (v := .agg (questV x2.q)) rfl rfl rfl rfl ty29 rfl (.inl rfl) rfl rfl rfl rfl ?_
          refine s_loadR rfl rfl rfl rfl ty29 rfl rfl rfl ?_
          refine s_neStruct (r' := (decide (x2.q.name = p2.name) && (decide (x2.q.ty = p2.ty) && true))) rfl rfl rfl fk29 rfl rfl rfl rfl rfl ?_
          refine s_mv (.inl rfl) (by conv => lhs; whnf) rfl rfl rfl ?_
          refine s_split (t := 24) rfl (fun b4 => ?_) (fun b4 => ?_)
          · replace h := cond_t h b4
            refine s_skip rfl rfl rfl ?_
            refine s_skip rfl rfl rfl ?_
            refine s_skip rfl rfl rfl ?_
            refine s_skip rfl rfl rfl ?_
            refine s_pickT rfl rfl (v := .sc (.bool true)) rfl rfl rfl rfl ?_
            refine s_mv (.inl rfl) (by conv => lhs; whnf) rfl rfl rfl ?_
            refine s_skip rfl rfl rfl ?_
            refine s_skip rfl rfl rfl ?_
            refine s_skip rfl rfl rfl ?_
            refine s_skip rfl rfl rfl ?_
            refine s_pickT rfl rfl (v := .sc (.bool true)) rfl rfl rfl rfl ?_
            refine rt_nil ?_
            refine Exists.intro ⟨true, h⟩ ?_
            refine entX [((6, 0), ⟨29, 2, [[.sc (.string p2.name), .sc (.int .i64 p2.ty)]], false, true⟩, some (6, 0)), ((8, 0), ⟨32, 6, [[.sc (.string (⟨#[]⟩ : ByteArray)), .sc (.int .i64 0), .sc (.int .i64 0), .nils, .sc (.int .i64 0), .sc (.int .i64 0)]], false, true⟩, some (8, 0)), ((11, 0), ⟨32, 6, [[.sc (.string x2.q.name), .sc (.int .i64 x2.q.ty), .sc (.int .i64 x2.kind), .lst 6 (List.map recV x2.l), .sc (.int .i64 x2.rank), .sc (.int .i64 x2.til)]], false, true⟩, some (11, 0))] [] ⟨⟨rfl, _, rfl, rfl, rfl, rfl, id, rowsCv_one (.cons (.free rfl) (.cons (.free rfl) .nil)), rowsZ_one rfl⟩, ⟨rfl, _, rfl, rfl, rfl, rfl, id, rowsCv_one (.cons (.free rfl) (.cons (.free rfl) (.cons (.free rfl) (.cons (.free rfl) (.cons (.free rfl) (.cons (.free rfl) .nil)))))), rowsZ_one rfl⟩, ⟨rfl, _, rfl, rfl, rfl, rfl, id, rowsCv_one (.cons (.free rfl) (.cons (.free rfl) (.cons (.free rfl) (.cons (.free rfl) (.cons (.free rfl) (.cons (.free rfl) .nil)))))), rowsZ_one rfl⟩, trivial⟩ trivial rfl rfl ?_
            exact ⟨(.free rfl), (.free rfl), (.ptr rfl), (.ptr rfl), (.ptr rfl), (.free rfl), (.free rfl), (.free rfl), (.free rfl), trivial⟩
          · replace h := cond_f h b4
            refine s_fieldAddr rfl rfl fd32_3 rfl rfl rfl rfl ?_
            refine s_load rfl rfl rfl rfl ty3 rfl (.inr rfl) (by conv => lhs; whnf) rfl rfl rfl ?_
            refine s_mv (.inl rfl) (by conv => lhs; whnf) rfl rfl rfl ?_
            refine s_of (st_lss rfl rfl rfl) rfl rfl rfl rfl ?_
            refine s_pickF rfl rfl (by conv => lhs; whnf) rfl rfl rfl ?_
            refine s_mv (.inl rfl) (by conv => lhs; whnf) rfl rfl rfl ?_
            refine s_split (t := 30) rfl (fun b5 => ?_) (fun b5 => ?_)
            · replace h := cond_t h b5
              refine s_skip rfl rfl rfl ?_
              refine s_skip rfl rfl rfl ?_
              refine s_skip rfl rfl rfl ?_
              refine s_skip rfl rfl rfl ?_
              refine s_pickT rfl rfl (v := .sc (.bool true)) rfl rfl rfl rfl ?_
              refine rt_nil ?_
              refine Exists.intro ⟨true, h⟩ ?_
              refine entX [((6, 0), ⟨29, 2, [[.sc (.string p2.name), .sc (.int .i64 p2.ty)]], false, true⟩, some (6, 0)), ((8, 0), ⟨32, 6, [[.sc (.string (⟨#[]⟩ : ByteArray)), .sc (.int .i64 0), .sc (.int .i64 0), .nils, .sc (.int .i64 0), .sc (.int .i64 0)]], false, true⟩, some (8, 0)), ((11, 0), ⟨32, 6, [[.sc (.string x2.q.name), .sc (.int .i64 x2.q.ty), .sc (.int .i64 x2.kind), .lst 6 (List.map recV x2.l), .sc (.int .i64 x2.rank), .sc (.int .i64 x2.til)]], false, true⟩, some (11, 0))] [] ⟨⟨rfl, _, rfl, rfl, rfl, rfl, id, rowsCv_one (.cons (.free rfl) (.cons (.free rfl) .nil)), rowsZ_one rfl⟩, ⟨rfl, _, rfl, rfl, rfl, rfl, id, rowsCv_one (.cons (.free rfl) (.cons (.free rfl) (.cons (.free rfl) (.cons (.free rfl) (.cons (.free rfl) (.cons (.free rfl) .nil)))))), rowsZ_one rfl⟩, ⟨rfl, _, rfl, rfl, rfl, rfl, id, rowsCv_one (.cons (.free rfl) (.cons (.free rfl) (.cons (.free rfl) (.cons (.free rfl) (.cons (.free rfl) (.cons (.free rfl) .nil)))))), rowsZ_one rfl⟩, trivial⟩ trivial rfl rfl ?_
              exact ⟨(.free rfl), (.free rfl), (.ptr rfl), (.ptr rfl), (.ptr rfl), (.free rfl), (.free rfl), (.free rfl), (.free rfl), trivial⟩
            · replace h := cond_f h b5
              refine s_fieldAddr rfl rfl fd32_4 rfl rfl rfl rfl ?_
              refine s_load rfl rfl rfl rfl ty3 rfl (.inr rfl) (by conv => lhs; whnf) rfl rfl rfl ?_
              refine s_mv (.inl rfl) (by conv => lhs; whnf) rfl rfl rfl ?_
              refine s_of (st_leq rfl rfl rfl) rfl rfl rfl rfl ?_
              refine s_pickF rfl rfl (by conv => lhs; whnf) rfl rfl rfl ?_
              refine rt_nil ?_
              refine Exists.intro ⟨decide (x2.til ≤ p1), h⟩ ?_
              refine entX [((6, 0), ⟨29, 2, [[.sc (.string p2.name), .sc (.int .i64 p2.ty)]], false, true⟩, some (6, 0)), ((8, 0), ⟨32, 6, [[.sc (.string (⟨#[]⟩ : ByteArray)), .sc (.int .i64 0), .sc (.int .i64 0), .nils, .sc (.int .i64 0), .sc (.int .i64 0)]], false, true⟩, some (8, 0)), ((11, 0), ⟨32, 6, [[.sc (.string x2.q.name), .sc (.int .i64 x2.q.ty), .sc (.int .i64 x2.kind), .lst 6 (List.map recV x2.l), .sc (.int .i64 x2.rank), .sc (.int .i64 x2.til)]], false, true⟩, some (11, 0))] [] ⟨⟨rfl, _, rfl, rfl, rfl, rfl, id, rowsCv_one (.cons (.free rfl) (.cons (.free rfl) .nil)), rowsZ_one rfl⟩, ⟨rfl, _, rfl, rfl, rfl, rfl, id, rowsCv_one (.cons (.free rfl) (.cons (.free rfl) (.cons (.free rfl) (.cons (.free rfl) (.cons (.free rfl) (.cons (.free rfl) .nil)))))), rowsZ_one rfl⟩, ⟨rfl, _, rfl, rfl, rfl, rfl, id, rowsCv_one (.cons (.free rfl) (.cons (.free rfl) (.cons (.free rfl) (.cons (.free rfl) (.cons (.free rfl) (.cons (.free rfl) .nil)))))), rowsZ_one rfl⟩, trivial⟩ trivial rfl rfl ?_
              exact ⟨(.free rfl), (.free rfl), (.ptr rfl), (.ptr rfl), (.ptr rfl), (.free rfl), (.free rfl), (.free rfl), (.free rfl), trivial⟩
        · rintro ⟨j2_0, h⟩
          replace h : i_Look_j2 p1 v1_0 x2 (i_Look_l1 p0 p1 p2 p3 f1) j2_0 = some (r0, r1) := h
          unfold i_Look_j2 at h
          show Tri _ _ _ (inv_i_Look_2 p0 p1 p2 p3 v1_0 x2 j2_0)
          refine tri_cond rfl (fun c4 => ?_) (fun c4 => ?_)
          · replace h := cond_t h c4
            refine tri_exit ?_
            refine tri_region ?_
            refine s_of (st_add rfl rfl rfl) rfl rfl rfl rfl ?_
            refine s_mv (.inl rfl) (by conv => lhs; whnf) rfl rfl rfl ?_
            refine rt_nil ?_
            refine Exists.intro ⟨(f1, IntKind.i64.wrap (v1_0 + 1)), h⟩ (And.intro (Nat.lt_succ_self _) ?_)
            refine entX [((6, 0), ⟨29, 2, [[.sc (.string p2.name), .sc (.int .i64 p2.ty)]], false, true⟩, some (6, 0)), ((8, 0), ⟨32, 6, [[.sc (.string (⟨#[]⟩ : ByteArray)), .sc (.int .i64 0), .sc (.int .i64 0), .nils, .sc (.int .i64 0), .sc (.int .i64 0)]], false, true⟩, some (8, 0))] [] ⟨⟨rfl, _, rfl, rfl, rfl, rfl, id, rowsCv_one (.cons (.free rfl) (.cons (.free rfl) .nil)), rowsZ_one rfl⟩, ⟨rfl, _, rfl, rfl, rfl, rfl, id, rowsCv_one (.cons (.free rfl) (.cons (.free rfl) (.cons (.free rfl) (.cons (.free rfl) (.cons (.free rfl) (.cons (.free rfl) .nil)))))), rowsZ_one rfl⟩, trivial⟩ trivial rfl rfl ?_
            exact ⟨(.free rfl), (.free rfl), (.ptr rfl), (.ptr rfl), (.free rfl), (.free rfl), (.free rfl), trivial⟩
          · replace h := cond_f h c4
            refine tri_skip ?_
            refine tri_seq ?_
            refine tri_region ?_
            refine s_fieldAddr rfl rfl fd32_4 rfl rfl rfl rfl ?_
            refine s_load rfl rfl rfl rfl ty3 rfl (.inr rfl) (by conv => lhs; whnf) rfl rfl rfl ?_
            refine s_mv (.inl rfl) (by conv => lhs; whnf) rfl rfl rfl ?_
            refine s_of (st_sub rfl rfl rfl) rfl rfl rfl rfl ?_
            refine s_mv (.inr rfl) (by conv => lhs; whnf) rfl rfl rfl ?_
            refine rt_nil ?_
            refine tri_cutI (ι := { p : Int // i_Look_j3 x2 p = some (r0, r1) }) (fun p => inv_i_Look_3 x2 p.1) ?_ ?_
            · skip
              refine tri_cutI (ι := { p : Bool // i_Look_j4 p1 x2 p = some (r0, r1) }) (fun p => inv_i_Look_4 p1 x2 p.1) ?_ ?_
              · skip
                refine tri_region ?_
                refine s_mv (.inl rfl) (by conv => lhs; whnf) rfl rfl rfl ?_
                refine s_of (st_lss rfl rfl rfl) rfl rfl rfl rfl ?_
                refine s_mv (.inl rfl) (by conv => lhs; whnf) rfl rfl rfl ?_
                refine s_split (t := 42) rfl (fun b5 => ?_) (fun b5 => ?_)
                · replace h := cond_t h b5
                  refine s_skip rfl rfl rfl ?_
                  refine s_skip rfl rfl rfl ?_
                  refine s_pickT rfl rfl (v := .sc (.bool true)) rfl rfl rfl rfl ?_
                  refine rt_nil ?_
                  refine Exists.intro ⟨true, h⟩ ?_
                  refine entX [((8, 0), ⟨32, 6, [[.sc (.string (⟨#[]⟩ : ByteArray)), .sc (.int .i64 0), .sc (.int .i64 0), .nils, .sc (.int .i64 0), .sc (.int .i64 0)]], false, true⟩, some (8, 0)), ((11, 0), ⟨32, 6, [[.sc (.string x2.q.name), .sc (.int .i64 x2.q.ty), .sc (.int .i64 x2.kind), .lst 6 (List.map recV x2.l), .sc (.int .i64 x2.rank), .sc (.int .i64 x2.til)]], false, true⟩, some (11, 0))] [] ⟨⟨rfl, _, rfl, rfl, rfl, rfl, id, rowsCv_one (.cons (.free rfl) (.cons (.free rfl) (.cons (.free rfl) (.cons (.free rfl) (.cons (.free rfl) (.cons (.free rfl) .nil)))))), rowsZ_one rfl⟩, ⟨rfl, _, rfl, rfl, rfl, rfl, id, rowsCv_one (.cons (.free rfl) (.cons (.free rfl) (.cons (.free rfl) (.cons (.free rfl) (.cons (.free rfl) (.cons (.free rfl) .nil)))))), rowsZ_one rfl⟩, trivial⟩ trivial rfl rfl ?_
                  exact ⟨(.ptr rfl), (.ptr rfl), (.free rfl), (.free rfl), trivial⟩
                · replace h := cond_f h b5
                  refine s_mv (.inl rfl) (by conv => lhs; whnf) rfl rfl rfl ?_
                  refine s_of (st_gtr rfl rfl rfl) rfl rfl rfl rfl ?_
                  refine s_pickF rfl rfl (by conv => lhs; whnf) rfl rfl rfl ?_
                  refine rt_nil ?_
                  refine Exists.intro ⟨decide (100000 < IntKind.i64.wrap (x2.til - p1)), h⟩ ?_
                  refine entX [((8, 0), ⟨32, 6, [[.sc (.string (⟨#[]⟩ : ByteArray)), .sc (.int .i64 0), .sc (.int .i64 0), .nils, .sc (.int .i64 0), .sc (.int .i64 0)]], false, true⟩, some (8, 0)), ((11, 0), ⟨32, 6, [[.sc (.string x2.q.name), .sc (.int .i64 x2.q.ty), .sc (.int .i64 x2.kind), .lst 6 (List.map recV x2.l), .sc (.int .i64 x2.rank), .sc (.int .i64 x2.til)]], false, true⟩, some (11, 0))] [] ⟨⟨rfl, _, rfl, rfl, rfl, rfl, id, rowsCv_one (.cons (.free rfl) (.cons (.free rfl) (.cons (.free rfl) (.cons (.free rfl) (.cons (.free rfl) (.cons (.free rfl) .nil)))))), rowsZ_one rfl⟩, ⟨rfl, _, rfl, rfl, rfl, rfl, id, rowsCv_one (.cons (.free rfl) (.cons (.free rfl) (.cons (.free rfl) (.cons (.free rfl) (.cons (.free rfl) (.cons (.free rfl) .nil)))))), rowsZ_one rfl⟩, trivial⟩ trivial rfl rfl ?_
                  exact ⟨(.ptr rfl), (.ptr rfl), (.free rfl), (.free rfl), trivial⟩
              · rintro ⟨j4_0, h⟩
                replace h : i_Look_j4 p1 x2 j4_0 = some (r0, r1) := h
                unfold i_Look_j4 at h
                show Tri _ _ _ (inv_i_Look_4 p1 x2 j4_0)
                refine tri_cond rfl (fun c5 => ?_) (fun c5 => ?_)
                · replace h := cond_t h c5
                  refine tri_region ?_
                  refine s_mv (.inr rfl) (v := .sc (.int .i64 100000)) rfl rfl rfl rfl ?_
                  refine rt_nil ?_
                  refine Exists.intro ⟨100000, h⟩ ?_
                  refine entX [((8, 0), ⟨32, 6, [[.sc (.string (⟨#[]⟩ : ByteArray)), .sc (.int .i64 0), .sc (.int .i64 0), .nils, .sc (.int .i64 0), .sc (.int .i64 0)]], false, true⟩, some (8, 0)), ((11, 0), ⟨32, 6, [[.sc (.string x2.q.name), .sc (.int .i64 x2.q.ty), .sc (.int .i64 x2.kind), .lst 6 (List.map recV x2.l), .sc (.int .i64 x2.rank), .sc (.int .i64 x2.til)]], false, true⟩, some (11, 0))] [] ⟨⟨rfl, _, rfl, rfl, rfl, rfl, id, rowsCv_one (.cons (.free rfl) (.cons (.free rfl) (.cons (.free rfl) (.cons (.free rfl) (.cons (.free rfl) (.cons (.free rfl) .nil)))))), rowsZ_one rfl⟩, ⟨rfl, _, rfl, rfl, rfl, rfl, id, rowsCv_one (.cons (.free rfl) (.cons (.free rfl) (.cons (.free rfl) (.cons (.free rfl) (.cons (.free rfl) (.cons (.free rfl) .nil)))))), rowsZ_one rfl⟩, trivial⟩ trivial rfl rfl ?_
                  exact ⟨(.ptr rfl), (.ptr rfl), (.free rfl), trivial⟩
                · replace h := cond_f h c5
                  refine tri_skip ?_
                  refine Exists.intro ⟨IntKind.i64.wrap (x2.til - p1), h⟩ ?_
                  refine entX [((8, 0), ⟨32, 6, [[.sc (.string (⟨#[]⟩ : ByteArray)), .sc (.int .i64 0), .sc (.int .i64 0), .nils, .sc (.int .i64 0), .sc (.int .i64 0)]], false, true⟩, some (8, 0)), ((11, 0), ⟨32, 6, [[.sc (.string x2.q.name), .sc (.int .i64 x2.q.ty), .sc (.int .i64 x2.kind), .lst 6 (List.map recV x2.l), .sc (.int .i64 x2.rank), .sc (.int .i64 x2.til)]], false, true⟩, some (11, 0))] [] ⟨⟨rfl, _, rfl, rfl, rfl, rfl, id, rowsCv_one (.cons (.free rfl) (.cons (.free rfl) (.cons (.free rfl) (.cons (.free rfl) (.cons (.free rfl) (.cons (.free rfl) .nil)))))), rowsZ_one rfl⟩, ⟨rfl, _, rfl, rfl, rfl, rfl, id, rowsCv_one (.cons (.free rfl) (.cons (.free rfl) (.cons (.free rfl) (.cons (.free rfl) (.cons (.free rfl) (.cons (.free rfl) .nil)))))), rowsZ_one rfl⟩, trivial⟩ trivial rfl rfl ?_
                  exact ⟨(.ptr rfl), (.ptr rfl), (.free rfl), trivial⟩
            · rintro ⟨j3_0, h⟩
              replace h : i_Look_j3 x2 j3_0 = some (r0, r1) := h
              unfold i_Look_j3 at h
              show Tri _ _ _ (inv_i_Look_3 x2 j3_0)
              refine tri_seq ?_
              refine tri_region ?_
              refine s_fieldAddr rfl rfl fd32_2 rfl rfl rfl rfl ?_
              refine s_load rfl rfl rfl rfl ty30 rfl (.inr rfl) (by conv => lhs; whnf) rfl rfl rfl ?_
              refine s_mv (.inl rfl) (by conv => lhs; whnf) rfl rfl rfl ?_
              refine bnd1_elim h fun x5 q6 h => ?_
              refine s_callN (kb := []) (ns := []) (v := .ref (49, 0) 0 x5.length) rfl rfl cl69 (wi_WithTtl x2.l j3_0 x5 q6) rfl (.cons (.free rfl) (.cons (.free rfl) .nil)) trivial memNil .nil memNil rfl ⟨(allSc_map recV_sc), trivial⟩ memNil rfl (by first | (simp only [V.mat, V.mat1, V.mat0, matL, matT, List.length_map]; done) | (simp only [V.mat, V.mat1, V.mat0, matL, matT, List.length_map]; rfl)) rfl rfl rfl rfl ?_
              refine s_fieldAddr rfl rfl fd32_2 rfl rfl rfl rfl ?_
              refine s_store (rows' := [[.sc (.string x2.q.name), .sc (.int .i64 x2.q.ty), .sc (.int .i64 x2.kind), .ref (49, 0) 0 x5.length, .sc (.int .i64 x2.rank), .sc (.int .i64 x2.til)]]) rfl rfl rfl rfl ty30 rfl rfl rfl rfl rfl rfl ?_
              refine rt_nil ?_
              refine tri_seq ?_
              refine tri_region ?_
              refine s_loadR rfl rfl rfl rfl ty32 rfl rfl rfl ?_
              refine s_storeB rfl rfl rfl ty32 rfl rfl rfl rfl rfl ?_
              refine s_mv (.inr rfl) (v := .sc (.bool true)) rfl rfl rfl rfl ?_
              refine rt_nil ?_
              refine tri_ret ?_
              have e0 := (some2 h).1; have e1 := (some2 h).2; subst e0; subst e1
              exact endY (v' := .tup [.agg [.sc (.string x2.q.name), .sc (.int .i64 x2.q.ty), .sc (.int .i64 x2.kind), .ref (2000, 103) 0 x5.length, .sc (.int .i64 x2.rank), .sc (.int .i64 x2.til)], .sc (.bool true)]) [((2000, 103), ⟨60, 6, List.map recV x5, false, true⟩, some (49, 0))] [] (rvC (resCell rfl rfl ty32) (rvC (resTmp rfl) rvN)) ⟨⟨rfl, _, rfl, rfl, rfl, rfl, id, rowsCv_eq rfl (allFree_map recV_free), rowsZ_map recV_len⟩, trivial⟩ trivial rfl rfl (by kernel_rfl) (by first | (simp only [V.mat, V.mat1, V.mat0, matL, matT, List.length_map]; done) | (simp only [V.mat, V.mat1, V.mat0, matL, matT, List.length_map]; rfl)) (CvL.tup (.cons (CvL.agg (.cons (.free rfl) (.cons (.free rfl) (.cons (.free rfl) (.cons (.ref rfl) (.cons (.free rfl) (.cons (.free rfl) .nil))))))) (.cons (.free rfl) .nil)))
      · replace h := cond_f h c1
        refine tri_exit ?_
        refine Exists.intro ⟨(), h⟩ ?_
        refine entX [((8, 0), ⟨32, 6, [[.sc (.string (⟨#[]⟩ : ByteArray)), .sc (.int .i64 0), .sc (.int .i64 0), .nils, .sc (.int .i64 0), .sc (.int .i64 0)]], false, true⟩, some (8, 0))] [] ⟨⟨rfl, _, rfl, rfl, rfl, rfl, id, rowsCv_one (.cons (.free rfl) (.cons (.free rfl) (.cons (.free rfl) (.cons (.free rfl) (.cons (.free rfl) (.cons (.free rfl) .nil)))))), rowsZ_one rfl⟩, trivial⟩ trivial rfl rfl ?_
        exact ⟨(.ptr rfl), trivial⟩
  · rintro ⟨u, h⟩
    replace h : i_Look_j0 = some (r0, r1) := h
    unfold i_Look_j0 at h
    show Tri _ _ _ (inv_i_Look_0)
    refine tri_seq ?_
    refine tri_region ?_
    refine s_build (cells' := [.sc (.string (⟨#[]⟩ : ByteArray)), .sc (.int .i64 0), .sc (.int .i64 0), .nils, .sc (.int .i64 0), .sc (.int .i64 0)]) rfl stc32 rfl rfl rfl rfl rfl rfl rfl ?_
    refine s_storeB rfl rfl rfl ty32 rfl rfl rfl rfl rfl ?_
    refine s_mv (.inr rfl) (v := .sc (.bool false)) rfl rfl rfl rfl ?_
    refine rt_nil ?_
    refine tri_ret ?_
    have e0 := (some2 h).1; have e1 := (some2 h).2; subst e0; subst e1
    exact endY (v' := .tup [.agg [.sc (.string (⟨#[]⟩ : ByteArray)), .sc (.int .i64 0), .sc (.int .i64 0), .ref (2000, 103) 0 (([] : List Rec).length), .sc (.int .i64 0), .sc (.int .i64 0)], .sc (.bool false)]) [((2000, 103), ⟨60, 6, List.map recV ([] : List Rec), false, true⟩, none)] [] (rvC (resCell rfl rfl ty32) (rvC (resTmp rfl) rvN)) ⟨rfl, trivial⟩ trivial rfl rfl (by kernel_rfl) (by first | (simp only [V.mat, V.mat1, V.mat0, matL, matT, List.length_map]; done) | (simp only [V.mat, V.mat1, V.mat0, matL, matT, List.length_map]; rfl)) (CvL.tup (.cons (CvL.agg (.cons (.free rfl) (.cons (.free rfl) (.cons (.free rfl) (.cons (.nilRef rfl) (.cons (.free rfl) (.cons (.free rfl) .nil))))))) (.cons (.free rfl) .nil)))

/- impl.Record] -/
def inv_slices_Index_Record_0 (p0 : List Rec) (p1 : Rec) (v0_0 : Nat) : St := mkT 19 [(0, .lst 6 (List.map recV p0)), (3, .ptr (3, 0) 0 0), (7, .sc (.int .i64 (p0.length : Int))), (8, .sc (.int .i64 (v0_0 : Int)))] [((3, 0), some ⟨60, 6, [[.sc (.string p1.name), .sc (.int .i64 p1.ty), .sc (.int .i64 p1.ttl), .sc (.int .i64 p1.n), .sc (.string p1.host), .sc (.string p1.text)]], false, true⟩)]
set_option maxRecDepth 4000 in
set_option maxHeartbeats 800000 in
theorem wslices_Index_Record (p0 : List Rec) (p1 : Rec) (r0 : Int) (h : slices_Index_Record p0 p1 = some r0) : Runs Tryd.prog 123 [.lst 6 (List.map recV p0), .agg (recV p1)] [] (.sc (.int .i64 r0)) [] := by
  unfold slices_Index_Record at h
  refine runsR [.tmp 4] Tryd.func123 rfl rfl rfl rfl ?_
  rw [Tryd.ntmps123]
  refine tri_seq ?_
  refine tri_region ?_
  refine s_box rfl rfl rfl rfl rfl rfl rfl ?_
  refine s_mv (.inr rfl) (v := .sc (.int .i64 0)) rfl rfl rfl rfl ?_
  refine rt_nil ?_
  refine tri_seq ?_
  refine tri_seq ?_
  refine tri_region ?_
  refine s_mv (.inl rfl) (by conv => lhs; whnf) rfl rfl rfl ?_
  refine s_lenL rfl sl30 rfl rfl rfl rfl ?_
  refine s_mv (.inl rfl) (v := .sc (.int .i64 0)) rfl rfl rfl rfl ?_
  refine rt_nil ?_
  refine tri_block ?_
  refine tri_lstM 0 rfl (fun hl0 => ?_)
  refine tri_loop (ι := { p : (List Rec) × Nat // p0.drop p.2 = p.1 ∧ slices_Index_Record_l0 p1 p.1 p.2 = some r0 }) (fun p => inv_slices_Index_Record_0 p0 p1 p.1.2) (fun p => p.1.1.length) ⟨(p0, 0), rfl, h⟩ ?_ ?_
  · skip
    refine entX [((3, 0), ⟨60, 6, [[.sc (.string p1.name), .sc (.int .i64 p1.ty), .sc (.int .i64 p1.ttl), .sc (.int .i64 p1.n), .sc (.string p1.host), .sc (.string p1.text)]], false, true⟩, some (3, 0))] [] ⟨⟨rfl, _, rfl, rfl, rfl, rfl, id, rowsCv_one (.cons (.free rfl) (.cons (.free rfl) (.cons (.free rfl) (.cons (.free rfl) (.cons (.free rfl) (.cons (.free rfl) .nil)))))), rowsZ_one rfl⟩, trivial⟩ trivial rfl rfl ?_
    exact ⟨(.free rfl), (.ptr rfl), (.free rfl), (.free rfl), trivial⟩
  · rintro ⟨⟨lrs0, v0_0⟩, hd0, h⟩
    replace hd0 : p0.drop v0_0 = lrs0 := hd0
    replace h : slices_Index_Record_l0 p1 lrs0 v0_0 = some r0 := h
    show Tri _ _ _ (inv_slices_Index_Record_0 p0 p1 v0_0)
    refine tri_seq ?_
    refine tri_region ?_
    refine s_of (st_lss rfl rfl rfl) rfl rfl rfl rfl ?_
    refine rt_nil ?_
    refine tri_seq ?_
    refine tri_cond rfl (fun c1 => ?_) (fun c1 => ?_)
    · refine drop_elim hd0 c1 fun e0 rs0 he hx0 hn0 => ?_
      subst he
      rw [slices_Index_Record_l0] at h
      refine tri_skip ?_
      refine tri_seq ?_
      refine tri_block ?_
      refine tri_seq ?_
      refine tri_region ?_
      refine s_mv (.inl rfl) (by conv => lhs; whnf) rfl rfl rfl ?_
      refine s_mv (.inr rfl) (by conv => lhs; whnf) rfl rfl rfl ?_
      refine rt_nil ?_
      refine tri_seq ?_
      refine tri_draw mixed ?_
      refine s_loadR rfl rfl rfl rfl ty60 rfl rfl rfl ?_
      refine s_mv (.inl rfl) (by conv => lhs; whnf) rfl rfl rfl ?_
      refine s_mv (.inl rfl) (by conv => lhs; whnf) rfl rfl rfl ?_
      refine s_indexF (i := v0_0) rfl rfl rfl sl30 (get_ltM hx0) rfl rfl rfl ?_
      refine s_loadFR rfl rfl (rowG hx0) ty60 rfl rfl rfl ?_
      refine s_eqStruct (r' := (decide (p1.name = e0.name) && (decide (p1.ty = e0.ty) && (decide (p1.ttl = e0.ttl) && (decide (p1.n = e0.n) && (decide (p1.host = e0.host) && (decide (p1.text = e0.text) && true))))))) rfl rfl rfl fk60 rfl rfl rfl rfl rfl ?_
      refine rt_nil ⟨by kernel_rfl, ?_⟩
      refine tri_cond rfl (fun c2 => ?_) (fun c2 => ?_)
      · replace h := cond_t h c2
        refine tri_seq ?_
        refine tri_region ?_
        refine s_mv (.inl rfl) (by conv => lhs; whnf) rfl rfl rfl ?_
        refine s_mv (.inr rfl) (by conv => lhs; whnf) rfl rfl rfl ?_
        refine rt_nil ?_
        refine tri_ret ?_
        have e0 := (some1 h); subst e0
        exact endY [] [] (rvC (resTmp rfl) rvN) trivial trivial rfl rfl rfl rfl (.free rfl)
      · replace h := cond_f h c2
        refine tri_skip ?_
        refine tri_region ?_
        refine s_inc (a := v0_0) (b := 1) rfl rfl rfl rfl (by have := get_lt hx0; have := hl0; omega) rfl rfl rfl ?_
        refine s_mv (.inl rfl) (by conv => lhs; whnf) rfl rfl rfl ?_
        refine rt_nil ?_
        refine Exists.intro ⟨(rs0, (v0_0 + 1)), hn0, h⟩ (And.intro (Nat.lt_succ_self _) ?_)
        refine entX [((3, 0), ⟨60, 6, [[.sc (.string p1.name), .sc (.int .i64 p1.ty), .sc (.int .i64 p1.ttl), .sc (.int .i64 p1.n), .sc (.string p1.host), .sc (.string p1.text)]], false, true⟩, some (3, 0))] [] ⟨⟨rfl, _, rfl, rfl, rfl, rfl, id, rowsCv_one (.cons (.free rfl) (.cons (.free rfl) (.cons (.free rfl) (.cons (.free rfl) (.cons (.free rfl) (.cons (.free rfl) .nil)))))), rowsZ_one rfl⟩, trivial⟩ trivial rfl rfl ?_
        exact ⟨(.free rfl), (.ptr rfl), (.free rfl), (.free rfl), trivial⟩
    · have he := drop_f hd0 c1; subst he
      rw [slices_Index_Record_l0] at h
      refine tri_exit ?_
      refine tri_seq ?_
      refine tri_region ?_
      refine s_mv (.inr rfl) (v := .sc (.int .i64 (-1))) rfl rfl rfl rfl ?_
      refine rt_nil ?_
      refine tri_ret ?_
      have e0 := (some1 h); subst e0
      exact endY [] [] (rvC (resTmp rfl) rvN) trivial trivial rfl rfl rfl rfl (.free rfl)

/- impl.Record] -/

set_option maxRecDepth 4000 in
set_option maxHeartbeats 800000 in
theorem wslices_Contains_Record (p0 : List Rec) (p1 : Rec) (r0 : Bool) (h : slices_Contains_Record p0 p1 = some r0) : Runs Tryd.prog 110 [.lst 6 (List.map recV p0), .agg (recV p1)] [] (.sc (.bool r0)) [] := by
  unfold slices_Contains_Record at h
  refine runsR [.tmp 4] Tryd.func110 rfl rfl rfl rfl ?_
  rw [Tryd.ntmps110]
  refine tri_seq ?_
  refine tri_region ?_
  refine s_box rfl rfl rfl rfl rfl rfl rfl ?_
  refine s_mv (.inr rfl) (v := .sc (.bool false)) rfl rfl rfl rfl ?_
  refine rt_nil ?_
  refine tri_seq ?_
  refine tri_region ?_
  refine s_mv (.inl rfl) (by conv => lhs; whnf) rfl rfl rfl ?_
  refine s_loadR rfl rfl rfl rfl ty60 rfl rfl rfl ?_
  refine bnd1_elim h fun x1 q2 h => ?_
  refine s_callN (kb := []) (ns := []) (v := .sc (.int .i64 x1)) rfl rfl cl123 (wslices_Index_Record p0 p1 x1 q2) rfl (.cons (.free rfl) (.cons (relAgg rfl) .nil)) trivial memNil .nil memNil rfl trivial memNil rfl rfl rfl rfl rfl rfl ?_
  refine s_of (st_geq rfl rfl rfl) rfl rfl rfl rfl ?_
  refine s_mv (.inr rfl) (by conv => lhs; whnf) rfl rfl rfl ?_
  refine rt_nil ?_
  refine tri_ret ?_
  have e0 := (some1 h); subst e0
  exact endY [] [] (rvC (resTmp rfl) rvN) trivial trivial rfl rfl rfl rfl (.free rfl)

/- impl.within$1 -/

set_option maxRecDepth 4000 in
set_option maxHeartbeats 800000 in
theorem wi_within_1 (p0 : Rec) (p1 : List Rec) (r0 : Bool) (h : i_within_1 p0 p1 = some r0) : Runs Tryd.prog 109 [.agg (recV p0), .lptr 1 [[.lst 6 (List.map recV p1)]] 0 0] [] (.sc (.bool r0)) [] := by
  unfold i_within_1 at h
  refine runsR [.tmp 3] Tryd.func109 rfl rfl rfl rfl ?_
  rw [Tryd.ntmps109]
  refine tri_seq ?_
  refine tri_region ?_
  refine s_box rfl rfl rfl rfl rfl rfl rfl ?_
  refine s_mv (.inr rfl) (v := .sc (.bool false)) rfl rfl rfl rfl ?_
  refine rt_nil ?_
  refine tri_seq ?_
  refine tri_region ?_
  refine s_loadF rfl rfl rfl ty30 rfl (.inr rfl) (by conv => lhs; whnf) rfl rfl rfl ?_
  refine s_loadR rfl rfl rfl rfl ty60 rfl rfl rfl ?_
  refine bnd1_elim h fun x1 q2 h => ?_
  refine s_callN (kb := []) (ns := []) (v := .sc (.bool x1)) rfl rfl cl110 (wslices_Contains_Record p1 p0 x1 q2) rfl (.cons (.free rfl) (.cons (relAgg rfl) .nil)) trivial memNil .nil memNil rfl trivial memNil rfl rfl rfl rfl rfl rfl ?_
  refine s_of (st_not rfl rfl) rfl rfl rfl rfl ?_
  refine s_mv (.inr rfl) (by conv => lhs; whnf) rfl rfl rfl ?_
  refine rt_nil ?_
  refine tri_ret ?_
  have e0 := (some1 h); subst e0
  exact endY [] [] (rvC (resTmp rfl) rvN) trivial trivial rfl rfl rfl rfl (.free rfl)

/- impl.within -/

set_option maxRecDepth 4000 in
set_option maxHeartbeats 800000 in
theorem wi_within (p0 : List Rec) (p1 : List Rec) (r0 : Bool) (h : i_within p0 p1 = some r0) : Runs Tryd.prog 81 [.lst 6 (List.map recV p0), .lst 6 (List.map recV p1)] [] (.sc (.bool r0)) [] := by
  unfold i_within at h
  refine runsR [.tmp 4] Tryd.func81 rfl rfl rfl rfl ?_
  rw [Tryd.ntmps81]
  refine tri_seq ?_
  refine tri_region ?_
  refine s_mv (.inr rfl) (v := .sc (.bool false)) rfl rfl rfl rfl ?_
  refine rt_nil ?_
  refine tri_seq ?_
  refine tri_region ?_
  refine s_mv (.inl rfl) (by conv => lhs; whnf) rfl rfl rfl ?_
  refine bnd1_elim h fun x1 q2 h => ?_
  refine s_callN (kb := []) (ns := []) (v := .ref (8, 0) 0 x1.length) rfl rfl cl69 (wi_WithTtl p0 0 x1 q2) rfl (.cons (.free rfl) (.cons (.free rfl) .nil)) trivial memNil .nil memNil rfl ⟨(allSc_map recV_sc), trivial⟩ memNil rfl (by first | (simp only [V.mat, V.mat1, V.mat0, matL, matT, List.length_map]; done) | (simp only [V.mat, V.mat1, V.mat0, matL, matT, List.length_map]; rfl)) rfl rfl rfl rfl ?_
  refine s_mv (.inl rfl) (by conv => lhs; whnf) rfl rfl rfl ?_
  refine bnd1_elim h fun x3 q4 h => ?_
  refine s_callN (kb := []) (ns := []) (v := .ref (10, 0) 0 x3.length) rfl rfl cl69 (wi_WithTtl p1 0 x3 q4) rfl (.cons (.free rfl) (.cons (.free rfl) .nil)) trivial memNil .nil memNil rfl ⟨(allSc_map recV_sc), trivial⟩ memNil rfl (by first | (simp only [V.mat, V.mat1, V.mat0, matL, matT, List.length_map]; done) | (simp only [V.mat, V.mat1, V.mat0, matL, matT, List.length_map]; rfl)) rfl rfl rfl rfl ?_
  refine s_alloc rfl rfl rfl zc30 rfl rfl rfl rfl rfl ?_
  refine s_mv (.inr rfl) (by conv => lhs; whnf) rfl rfl rfl ?_
  refine s_storeB rfl rfl rfl ty30 rfl rfl rfl rfl rfl ?_
  refine rt_nil ?_
  refine tri_seq ?_
  refine tri_region ?_
  refine s_mv (.inl rfl) (by conv => lhs; whnf) rfl rfl rfl ?_
  refine s_makeFunc (caps := [.ptr (6, 0) 0 0]) rfl rfl rfl rfl rfl ?_
  refine bnd1_elim h fun x5 q6 h => ?_
  refine s_callN (kb := [(8, 0), (6, 0), (10, 0)]) (ns := []) (v := .sc (.bool x5)) rfl rfl cl92 (wslices_ContainsFunc_Record x1 109 ([.lptr 1 [[.lst 6 (List.map recV x3)]] 0 0]) rfl cl109 (fun a0 => i_within_1 a0 x3) (fun a0 v0 hv => wi_within_1 a0 x3 v0 hv) x5 q6) rfl (.cons (lendL rfl (.head _) rfl recV_free recV_len) (.cons (relFnL rfl (.cons (relBoxL rfl (.tail _ (.head _)) (.cons (lendL rfl (.tail _ (.tail _ (.head _))) rfl recV_free recV_len) .nil) rfl rfl) .nil)) .nil)) trivial memNil .nil (fun _ _ => List.not_mem_nil) rfl trivial memNil rfl rfl rfl rfl rfl rfl ?_
  refine s_of (st_not rfl rfl) rfl rfl rfl rfl ?_
  refine s_mv (.inr rfl) (by conv => lhs; whnf) rfl rfl rfl ?_
  refine rt_nil ?_
  refine tri_ret ?_
  have e0 := (some1 h); subst e0
  exact endY [] [] (rvC (resTmp rfl) rvN) trivial trivial rfl rfl rfl rfl (.free rfl)

/- impl.SameData -/

set_option maxRecDepth 4000 in
set_option maxHeartbeats 800000 in
theorem wi_SameData (p0 : List Rec) (p1 : List Rec) (r0 : Bool) (h : i_SameData p0 p1 = some r0) : Runs Tryd.prog 35 [.lst 6 (List.map recV p0), .lst 6 (List.map recV p1)] [] (.sc (.bool r0)) [] := by
  unfold i_SameData at h
  refine runsR [.tmp 4] Tryd.func35 rfl rfl rfl rfl ?_
  rw [Tryd.ntmps35]
  refine tri_seq ?_
  refine tri_region ?_
  refine s_mv (.inr rfl) (v := .sc (.bool false)) rfl rfl rfl rfl ?_
  refine rt_nil ?_
  refine tri_seq ?_
  refine tri_region ?_
  refine s_mv (.inl rfl) (by conv => lhs; whnf) rfl rfl rfl ?_
  refine s_mv (.inl rfl) (by conv => lhs; whnf) rfl rfl rfl ?_
  refine bnd1_elim h fun x1 q2 h => ?_
  refine s_callN (kb := []) (ns := []) (v := .sc (.bool x1)) rfl rfl cl81 (wi_within p0 p1 x1 q2) rfl (.cons (.free rfl) (.cons (.free rfl) .nil)) trivial memNil .nil memNil rfl trivial memNil rfl rfl rfl rfl rfl rfl ?_
  refine s_mv (.inl rfl) (by conv => lhs; whnf) rfl rfl rfl ?_
  refine s_split (t := 8) rfl (fun b3 => ?_) (fun b3 => ?_)
  · replace h := cond_t h b3
    refine s_mv (.inl rfl) (by conv => lhs; whnf) rfl rfl rfl ?_
    refine s_mv (.inl rfl) (by conv => lhs; whnf) rfl rfl rfl ?_
    refine bnd1_elim h fun x4 q5 h => ?_
    refine s_callN (kb := []) (ns := []) (v := .sc (.bool x4)) rfl rfl cl81 (wi_within p1 p0 x4 q5) rfl (.cons (.free rfl) (.cons (.free rfl) .nil)) trivial memNil .nil memNil rfl trivial memNil rfl rfl rfl rfl rfl rfl ?_
    refine s_pickT rfl rfl (by conv => lhs; whnf) rfl rfl rfl ?_
    refine s_mv (.inr rfl) (by conv => lhs; whnf) rfl rfl rfl ?_
    refine rt_nil ?_
    refine tri_ret ?_
    have e0 := (some1 h); subst e0
    exact endY [] [] (rvC (resTmp rfl) rvN) trivial trivial rfl rfl rfl rfl (.free rfl)
  · replace h := cond_f h b3
    refine s_skip rfl rfl rfl ?_
    refine s_skip rfl rfl rfl ?_
    refine s_skip rfl rfl rfl ?_
    refine s_pickF rfl rfl (v := .sc (.bool false)) rfl rfl rfl rfl ?_
    refine s_mv (.inr rfl) (by conv => lhs; whnf) rfl rfl rfl ?_
    refine rt_nil ?_
    refine tri_ret ?_
    have e0 := (some1 h); subst e0
    exact endY [] [] (rvC (resTmp rfl) rvN) trivial trivial rfl rfl rfl rfl (.free rfl)

/- laws.FnKeeps -/
def inv_w_FnKeeps_2 (x4 : MCache) (x5 : Int) (x6 : MEntry) (x8 : MCache) (x17 : MEntry) (x18 : Bool) (x21 : Bool) (j2_0 : Bool) : St := mkT 153 [(3, .ptr (3, 0) 0 0), (4, .sc (.int .i64 x5)), (5, .ptr (5, 0) 0 0), (6, .ptr (6, 0) 0 0), (7, .ptr (7, 0) 0 0), (8, .sc (.bool x18)), (10, .sc (.bool x21)), (97, .sc (.bool j2_0))] [((3, 0), some ⟨43, 2, [[.sc (.int .i64 x4.cap), .lst 6 (List.map mEntryV x4.l)]], false, true⟩), ((5, 0), some ⟨32, 6, [[.sc (.string x6.q.name), .sc (.int .i64 x6.q.ty), .sc (.int .i64 x6.kind), .lst 6 (List.map recV x6.l), .sc (.int .i64 x6.rank), .sc (.int .i64 x6.til)]], false, true⟩), ((6, 0), some ⟨43, 2, [[.sc (.int .i64 x8.cap), .ref (26, 1) 0 x8.l.length]], false, true⟩), ((26, 1), some ⟨32, 6, List.map mEntryV x8.l, false, true⟩), ((7, 0), some ⟨32, 6, [[.sc (.string x17.q.name), .sc (.int .i64 x17.q.ty), .sc (.int .i64 x17.kind), .ref (63, 103) 0 x17.l.length, .sc (.int .i64 x17.rank), .sc (.int .i64 x17.til)]], false, true⟩), ((63, 103), some ⟨60, 6, List.map recV x17.l, false, true⟩)]
def inv_w_FnKeeps_1 (x4 : MCache) (x5 : Int) (x6 : MEntry) (x8 : MCache) (j1_0 : Bool) : St := mkT 153 [(3, .ptr (3, 0) 0 0), (4, .sc (.int .i64 x5)), (5, .ptr (5, 0) 0 0), (6, .ptr (6, 0) 0 0), (49, .sc (.bool j1_0))] [((3, 0), some ⟨43, 2, [[.sc (.int .i64 x4.cap), .lst 6 (List.map mEntryV x4.l)]], false, true⟩), ((5, 0), some ⟨32, 6, [[.sc (.string x6.q.name), .sc (.int .i64 x6.q.ty), .sc (.int .i64 x6.kind), .lst 6 (List.map recV x6.l), .sc (.int .i64 x6.rank), .sc (.int .i64 x6.til)]], false, true⟩), ((6, 0), some ⟨43, 2, [[.sc (.int .i64 x8.cap), .ref (26, 1) 0 x8.l.length]], false, true⟩), ((26, 1), some ⟨32, 6, List.map mEntryV x8.l, false, true⟩)]
def inv_w_FnKeeps_0 (x4 : MCache) (x5 : Int) (x6 : MEntry) (x8 : MCache) (j0_0 : Bool) : St := mkT 153 [(3, .ptr (3, 0) 0 0), (4, .sc (.int .i64 x5)), (5, .ptr (5, 0) 0 0), (6, .ptr (6, 0) 0 0), (40, .sc (.bool j0_0))] [((3, 0), some ⟨43, 2, [[.sc (.int .i64 x4.cap), .lst 6 (List.map mEntryV x4.l)]], false, true⟩), ((5, 0), some ⟨32, 6, [[.sc (.string x6.q.name), .sc (.int .i64 x6.q.ty), .sc (.int .i64 x6.kind), .lst 6 (List.map recV x6.l), .sc (.int .i64 x6.rank), .sc (.int .i64 x6.til)]], false, true⟩), ((6, 0), some ⟨43, 2, [[.sc (.int .i64 x8.cap), .ref (26, 1) 0 x8.l.length]], false, true⟩), ((26, 1), some ⟨32, 6, List.map mEntryV x8.l, false, true⟩)]
set_option maxRecDepth 4000 in
set_option maxHeartbeats 800000 in
theorem ww_FnKeeps (p0 : List Int) (r0 : Bool) (h : w_FnKeeps p0 = some r0) : Runs Tryd.prog 7 [.lst 1 (List.map byteV p0)] [] (.sc (.bool r0)) [] := by
  unfold w_FnKeeps at h
  refine runsR [.tmp 2] Tryd.func7 rfl rfl rfl rfl ?_
  rw [Tryd.ntmps7]
  refine tri_seq ?_
  refine tri_region ?_
  refine s_mv (.inr rfl) (v := .sc (.bool false)) rfl rfl rfl rfl ?_
  refine rt_nil ?_
  refine tri_seq ?_
  refine tri_seq ?_
  refine tri_region ?_
  refine s_mv (.inl rfl) (by conv => lhs; whnf) rfl rfl rfl ?_
  refine bnd1_elim h fun x1 q2 h => ?_
  refine s_callN (kb := []) (ns := []) (v := .sc (.bool x1)) rfl rfl cl19 (ww_big p0 x1 q2) rfl (.cons (.free rfl) .nil) trivial memNil .nil memNil rfl trivial memNil rfl rfl rfl rfl rfl rfl ?_
  refine rt_nil ?_
  refine tri_cond rfl (fun c3 => ?_) (fun c3 => ?_)
  · replace h := cond_t h c3
    refine tri_seq ?_
    refine tri_region ?_
    refine s_mv (.inr rfl) (v := .sc (.bool true)) rfl rfl rfl rfl ?_
    refine rt_nil ?_
    refine tri_ret ?_
    have e0 := (some1 h); subst e0
    exact endY [] [] (rvC (resTmp rfl) rvN) trivial trivial rfl rfl rfl rfl (.free rfl)
  · replace h := cond_f h c3
    refine tri_skip ?_
    refine tri_seq ?_
    refine tri_region ?_
    refine s_mv (.inl rfl) (by conv => lhs; whnf) rfl rfl rfl ?_
    refine bnd3_elim h fun x4 x5 x6 q7 h => ?_
    refine s_callZF (kb := []) (ns := []) (v := .tup [.agg [.sc (.int .i64 x4.cap), .ref (19, 101) 0 x4.l.length], .sc (.int .i64 x5), .agg [.sc (.string x6.q.name), .sc (.int .i64 x6.q.ty), .sc (.int .i64 x6.kind), .ref (19, 303) 0 x6.l.length, .sc (.int .i64 x6.rank), .sc (.int .i64 x6.til)]]) (D := [(19, 101), (19, 303)]) rfl rfl cl32 (ws_DrawKeep p0 x4 x5 x6 q7) rfl (.cons (.free rfl) .nil) trivial memNil .nil memNil trivial rfl ⟨(allFree_map mEntryV_free), ⟨(allFree_map recV_free), trivial⟩⟩ memNil rfl (by first | (simp only [V.mat, V.mat1, V.mat0, matL, matT, List.length_map]; done) | (simp only [V.mat, V.mat1, V.mat0, matL, matT, List.length_map]; rfl)) rfl ⟨⟨rfl, rfl, _, rfl, rfl⟩, ⟨⟨rfl, rfl, _, rfl, rfl⟩, trivial⟩⟩ (relTupL (.cons (relAggL (.cons (.free rfl) (.cons (lendL rfl (.head _) rfl mEntryV_free mEntryV_len) .nil))) (.cons (.free rfl) (.cons (relAggL (.cons (.free rfl) (.cons (.free rfl) (.cons (.free rfl) (.cons (lendL rfl (.tail _ (.head _)) rfl recV_free recV_len) (.cons (.free rfl) (.cons (.free rfl) .nil))))))) .nil)))) rfl rfl rfl ?_
    refine s_mv (.inl rfl) (by conv => lhs; whnf) rfl rfl rfl ?_
    refine s_extract rfl rfl rfl rfl rfl rfl ?_
    refine s_extract rfl rfl rfl rfl rfl rfl ?_
    refine s_extract rfl rfl rfl rfl rfl rfl ?_
    refine s_alloc rfl rfl rfl zc43 rfl rfl rfl rfl rfl ?_
    refine s_alloc rfl rfl rfl zc32 rfl rfl rfl rfl rfl ?_
    refine s_storeB rfl rfl rfl ty43 rfl rfl rfl rfl rfl ?_
    refine s_mv (.inr rfl) (by conv => lhs; whnf) rfl rfl rfl ?_
    refine s_storeB rfl rfl rfl ty32 rfl rfl rfl rfl rfl ?_
    refine rt_nil ?_
    refine tri_seq ?_
    refine tri_region ?_
    refine s_loadR rfl rfl rfl rfl ty43 rfl rfl rfl ?_
    refine s_mv (.inl rfl) (by conv => lhs; whnf) rfl rfl rfl ?_
    refine s_loadR rfl rfl rfl rfl ty32 rfl rfl rfl ?_
    refine bnd1_elim h fun x8 q9 h => ?_
    refine s_callZ (kb := []) (ns := []) (v := .agg [.sc (.int .i64 x8.cap), .ref (26, 1) 0 x8.l.length]) rfl rfl cl33 (wi_Keep x4 x5 x6 x8 q9) rfl (.cons (relAgg rfl) (.cons (.free rfl) (.cons (relAgg rfl) .nil))) trivial memNil .nil memNil trivial rfl ⟨(allFree_map mEntryV_free), trivial⟩ memNil rfl (by first | (simp only [V.mat, V.mat1, V.mat0, matL, matT, List.length_map]; done) | (simp only [V.mat, V.mat1, V.mat0, matL, matT, List.length_map]; rfl)) rfl rfl rfl rfl ?_
    refine s_alloc rfl rfl rfl zc43 rfl rfl rfl rfl rfl ?_
    refine s_storeB rfl rfl rfl ty43 rfl rfl rfl rfl rfl ?_
    refine rt_nil ?_
    refine tri_seq ?_
    refine tri_cutI (ι := { p : Bool // w_FnKeeps_j0 x4 x5 x6 x8 p = some r0 }) (fun p => inv_w_FnKeeps_0 x4 x5 x6 x8 p.1) ?_ ?_
    · skip
      refine tri_draw mixed ?_
      refine s_loadR rfl rfl rfl rfl ty43 rfl rfl rfl ?_
      refine s_loadR rfl rfl rfl rfl ty43 rfl rfl rfl ?_
      refine s_mv (.inl rfl) (by conv => lhs; whnf) rfl rfl rfl ?_
      refine s_loadR rfl rfl rfl rfl ty32 rfl rfl rfl ?_
      refine bnd1_elim h fun x10 q11 h => ?_
      refine s_callZ (kb := []) (ns := []) (v := .agg [.sc (.int .i64 x10.cap), .ref (31, 1) 0 x10.l.length]) rfl rfl cl34 (ws_Keep x4 x5 x6 x10 q11) rfl (.cons (relAgg rfl) (.cons (.free rfl) (.cons (relAgg rfl) .nil))) trivial memNil .nil memNil trivial rfl ⟨(allFree_map mEntryV_free), trivial⟩ memNil rfl (by first | (simp only [V.mat, V.mat1, V.mat0, matL, matT, List.length_map]; done) | (simp only [V.mat, V.mat1, V.mat0, matL, matT, List.length_map]; rfl)) rfl rfl rfl rfl ?_
      refine bnd1_elim h fun x12 q13 h => ?_
      refine s_callN (kb := [(26, 1), (31, 1)]) (ns := []) (v := .sc (.bool x12)) rfl rfl cl22 (ww_sameCache x8 x10 x12 q13) rfl (.cons (relAggL (.cons (.free rfl) (.cons (lendL rfl (.head _) rfl mEntryV_free mEntryV_len) .nil))) (.cons (relAggL (.cons (.free rfl) (.cons (lendL rfl (.tail _ (.head _)) rfl mEntryV_free mEntryV_len) .nil))) .nil)) trivial memNil .nil (fun _ _ => List.not_mem_nil) rfl trivial memNil rfl rfl rfl rfl rfl rfl ?_
      refine s_of (st_not rfl rfl) rfl rfl rfl rfl ?_
      refine s_mv (.inl rfl) (by conv => lhs; whnf) rfl rfl rfl ?_
      refine s_split (t := 34) rfl (fun b14 => ?_) (fun b14 => ?_)
      · replace h := cond_t h b14
        refine s_skip rfl rfl rfl ?_
        refine s_skip rfl rfl rfl ?_
        refine s_skip rfl rfl rfl ?_
        refine s_skip rfl rfl rfl ?_
        refine s_skip rfl rfl rfl ?_
        refine s_pickT rfl rfl (v := .sc (.bool true)) rfl rfl rfl rfl ?_
        refine rt_nil ⟨by kernel_rfl, ?_⟩
        refine Exists.intro ⟨true, h⟩ ?_
        refine entX [((3, 0), ⟨43, 2, [[.sc (.int .i64 x4.cap), .lst 6 (List.map mEntryV x4.l)]], false, true⟩, some (3, 0)), ((5, 0), ⟨32, 6, [[.sc (.string x6.q.name), .sc (.int .i64 x6.q.ty), .sc (.int .i64 x6.kind), .lst 6 (List.map recV x6.l), .sc (.int .i64 x6.rank), .sc (.int .i64 x6.til)]], false, true⟩, some (5, 0)), ((6, 0), ⟨43, 2, [[.sc (.int .i64 x8.cap), .ref (26, 1) 0 x8.l.length]], false, true⟩, some (6, 0)), ((26, 1), ⟨32, 6, List.map mEntryV x8.l, false, true⟩, some (26, 1))] [] ⟨⟨rfl, _, rfl, rfl, rfl, rfl, id, rowsCv_one (.cons (.free rfl) (.cons (.free rfl) .nil)), rowsZ_one rfl⟩, ⟨rfl, _, rfl, rfl, rfl, rfl, id, rowsCv_one (.cons (.free rfl) (.cons (.free rfl) (.cons (.free rfl) (.cons (.free rfl) (.cons (.free rfl) (.cons (.free rfl) .nil)))))), rowsZ_one rfl⟩, ⟨rfl, _, rfl, rfl, rfl, rfl, id, rowsCv_one (.cons (.free rfl) (.cons (.ref rfl) .nil)), rowsZ_one rfl⟩, ⟨rfl, _, rfl, rfl, rfl, rfl, id, rowsCv_eq rfl (allFree_map mEntryV_free), rowsZ_map mEntryV_len⟩, trivial⟩ trivial rfl rfl ?_
        exact ⟨(.ptr rfl), (.free rfl), (.ptr rfl), (.ptr rfl), (.free rfl), trivial⟩
      · replace h := cond_f h b14
        refine s_loadR rfl rfl rfl rfl ty32 rfl rfl rfl ?_
        refine bnd1_elim h fun x15 q16 h => ?_
        refine s_callN (kb := []) (ns := []) (v := .sc (.bool x15)) rfl rfl cl12 (wi_EntryOk x6 x15 q16) rfl (.cons (relAgg rfl) .nil) trivial memNil .nil memNil rfl trivial memNil rfl rfl rfl rfl rfl rfl ?_
        refine s_loadR rfl rfl rfl rfl ty32 rfl rfl rfl ?_
        refine bnd1_elim h fun x17 q18 h => ?_
        refine s_callN (kb := []) (ns := []) (v := .sc (.bool x17)) rfl rfl cl10 (ws_EntryOk x6 x17 q18) rfl (.cons (relAgg rfl) .nil) trivial memNil .nil memNil rfl trivial memNil rfl rfl rfl rfl rfl rfl ?_
        refine s_of (st_neB isb4 rfl rfl rfl) rfl rfl rfl rfl ?_
        refine s_pickF rfl rfl (by conv => lhs; whnf) rfl rfl rfl ?_
        refine rt_nil ⟨by kernel_rfl, ?_⟩
        refine Exists.intro ⟨!(x15 == x17), h⟩ ?_
        refine entX [((3, 0), ⟨43, 2, [[.sc (.int .i64 x4.cap), .lst 6 (List.map mEntryV x4.l)]], false, true⟩, some (3, 0)), ((5, 0), ⟨32, 6, [[.sc (.string x6.q.name), .sc (.int .i64 x6.q.ty), .sc (.int .i64 x6.kind), .lst 6 (List.map recV x6.l), .sc (.int .i64 x6.rank), .sc (.int .i64 x6.til)]], false, true⟩, some (5, 0)), ((6, 0), ⟨43, 2, [[.sc (.int .i64 x8.cap), .ref (26, 1) 0 x8.l.length]], false, true⟩, some (6, 0)), ((26, 1), ⟨32, 6, List.map mEntryV x8.l, false, true⟩, some (26, 1))] [] ⟨⟨rfl, _, rfl, rfl, rfl, rfl, id, rowsCv_one (.cons (.free rfl) (.cons (.free rfl) .nil)), rowsZ_one rfl⟩, ⟨rfl, _, rfl, rfl, rfl, rfl, id, rowsCv_one (.cons (.free rfl) (.cons (.free rfl) (.cons (.free rfl) (.cons (.free rfl) (.cons (.free rfl) (.cons (.free rfl) .nil)))))), rowsZ_one rfl⟩, ⟨rfl, _, rfl, rfl, rfl, rfl, id, rowsCv_one (.cons (.free rfl) (.cons (.ref rfl) .nil)), rowsZ_one rfl⟩, ⟨rfl, _, rfl, rfl, rfl, rfl, id, rowsCv_eq rfl (allFree_map mEntryV_free), rowsZ_map mEntryV_len⟩, trivial⟩ trivial rfl rfl ?_
        exact ⟨(.ptr rfl), (.free rfl), (.ptr rfl), (.ptr rfl), (.free rfl), trivial⟩
    · rintro ⟨j0_0, h⟩
      replace h : w_FnKeeps_j0 x4 x5 x6 x8 j0_0 = some r0 := h
      unfold w_FnKeeps_j0 at h
      show Tri _ _ _ (inv_w_FnKeeps_0 x4 x5 x6 x8 j0_0)
      refine tri_cond rfl (fun c10 => ?_) (fun c10 => ?_)
      · replace h := cond_t h c10
        refine tri_seq ?_
        refine tri_region ?_
        refine s_mv (.inr rfl) (v := .sc (.bool false)) rfl rfl rfl rfl ?_
        refine rt_nil ?_
        refine tri_ret ?_
        have e0 := (some1 h); subst e0
        exact endY [] [] (rvC (resTmp rfl) rvN) trivial trivial rfl rfl rfl rfl (.free rfl)
      · replace h := cond_f h c10
        refine tri_skip ?_
        refine tri_seq ?_
        refine tri_cutI (ι := { p : Bool // w_FnKeeps_j1 x4 x5 x6 x8 p = some r0 }) (fun p => inv_w_FnKeeps_1 x4 x5 x6 x8 p.1) ?_ ?_
        · skip
          refine tri_region ?_
          refine s_loadR rfl rfl rfl rfl ty32 rfl rfl rfl ?_
          refine bnd1_elim h fun x11 q12 h => ?_
          refine s_callN (kb := []) (ns := []) (v := .sc (.bool x11)) rfl rfl cl12 (wi_EntryOk x6 x11 q12) rfl (.cons (relAgg rfl) .nil) trivial memNil .nil memNil rfl trivial memNil rfl rfl rfl rfl rfl rfl ?_
          refine s_of (st_not rfl rfl) rfl rfl rfl rfl ?_
          refine s_mv (.inl rfl) (by conv => lhs; whnf) rfl rfl rfl ?_
          refine s_split (t := 44) rfl (fun b13 => ?_) (fun b13 => ?_)
          · replace h := cond_t h b13
            refine s_skip rfl rfl rfl ?_
            refine s_skip rfl rfl rfl ?_
            refine s_skip rfl rfl rfl ?_
            refine s_skip rfl rfl rfl ?_
            refine s_pickT rfl rfl (v := .sc (.bool true)) rfl rfl rfl rfl ?_
            refine rt_nil ?_
            refine Exists.intro ⟨true, h⟩ ?_
            refine entX [((3, 0), ⟨43, 2, [[.sc (.int .i64 x4.cap), .lst 6 (List.map mEntryV x4.l)]], false, true⟩, some (3, 0)), ((5, 0), ⟨32, 6, [[.sc (.string x6.q.name), .sc (.int .i64 x6.q.ty), .sc (.int .i64 x6.kind), .lst 6 (List.map recV x6.l), .sc (.int .i64 x6.rank), .sc (.int .i64 x6.til)]], false, true⟩, some (5, 0)), ((6, 0), ⟨43, 2, [[.sc (.int .i64 x8.cap), .ref (26, 1) 0 x8.l.length]], false, true⟩, some (6, 0)), ((26, 1), ⟨32, 6, List.map mEntryV x8.l, false, true⟩, some (26, 1))] [] ⟨⟨rfl, _, rfl, rfl, rfl, rfl, id, rowsCv_one (.cons (.free rfl) (.cons (.free rfl) .nil)), rowsZ_one rfl⟩, ⟨rfl, _, rfl, rfl, rfl, rfl, id, rowsCv_one (.cons (.free rfl) (.cons (.free rfl) (.cons (.free rfl) (.cons (.free rfl) (.cons (.free rfl) (.cons (.free rfl) .nil)))))), rowsZ_one rfl⟩, ⟨rfl, _, rfl, rfl, rfl, rfl, id, rowsCv_one (.cons (.free rfl) (.cons (.ref rfl) .nil)), rowsZ_one rfl⟩, ⟨rfl, _, rfl, rfl, rfl, rfl, id, rowsCv_eq rfl (allFree_map mEntryV_free), rowsZ_map mEntryV_len⟩, trivial⟩ trivial rfl rfl ?_
            exact ⟨(.ptr rfl), (.free rfl), (.ptr rfl), (.ptr rfl), (.free rfl), trivial⟩
          · replace h := cond_f h b13
            refine s_fieldAddr rfl rfl fd32_4 rfl rfl rfl rfl ?_
            refine s_load rfl rfl rfl rfl ty3 rfl (.inr rfl) (by conv => lhs; whnf) rfl rfl rfl ?_
            refine s_mv (.inl rfl) (by conv => lhs; whnf) rfl rfl rfl ?_
            refine s_of (st_leq rfl rfl rfl) rfl rfl rfl rfl ?_
            refine s_pickF rfl rfl (by conv => lhs; whnf) rfl rfl rfl ?_
            refine rt_nil ?_
            refine Exists.intro ⟨decide (x6.til ≤ x5), h⟩ ?_
            refine entX [((3, 0), ⟨43, 2, [[.sc (.int .i64 x4.cap), .lst 6 (List.map mEntryV x4.l)]], false, true⟩, some (3, 0)), ((5, 0), ⟨32, 6, [[.sc (.string x6.q.name), .sc (.int .i64 x6.q.ty), .sc (.int .i64 x6.kind), .lst 6 (List.map recV x6.l), .sc (.int .i64 x6.rank), .sc (.int .i64 x6.til)]], false, true⟩, some (5, 0)), ((6, 0), ⟨43, 2, [[.sc (.int .i64 x8.cap), .ref (26, 1) 0 x8.l.length]], false, true⟩, some (6, 0)), ((26, 1), ⟨32, 6, List.map mEntryV x8.l, false, true⟩, some (26, 1))] [] ⟨⟨rfl, _, rfl, rfl, rfl, rfl, id, rowsCv_one (.cons (.free rfl) (.cons (.free rfl) .nil)), rowsZ_one rfl⟩, ⟨rfl, _, rfl, rfl, rfl, rfl, id, rowsCv_one (.cons (.free rfl) (.cons (.free rfl) (.cons (.free rfl) (.cons (.free rfl) (.cons (.free rfl) (.cons (.free rfl) .nil)))))), rowsZ_one rfl⟩, ⟨rfl, _, rfl, rfl, rfl, rfl, id, rowsCv_one (.cons (.free rfl) (.cons (.ref rfl) .nil)), rowsZ_one rfl⟩, ⟨rfl, _, rfl, rfl, rfl, rfl, id, rowsCv_eq rfl (allFree_map mEntryV_free), rowsZ_map mEntryV_len⟩, trivial⟩ trivial rfl rfl ?_
            exact ⟨(.ptr rfl), (.free rfl), (.ptr rfl), (.ptr rfl), (.free rfl), trivial⟩
        · rintro ⟨j1_0, h⟩
          replace h : w_FnKeeps_j1 x4 x5 x6 x8 j1_0 = some r0 := h
          unfold w_FnKeeps_j1 at h
          show Tri _ _ _ (inv_w_FnKeeps_1 x4 x5 x6 x8 j1_0)
          refine tri_cond rfl (fun c11 => ?_) (fun c11 => ?_)
          · replace h := cond_t h c11
            refine tri_seq ?_
            refine tri_region ?_
            refine s_loadR rfl rfl rfl rfl ty43 rfl rfl rfl ?_
            refine s_loadR rfl rfl rfl rfl ty43 rfl rfl rfl ?_
            refine bnd1_elim h fun x12 q13 h => ?_
            refine s_callN (kb := [(26, 1)]) (ns := []) (v := .sc (.bool x12)) rfl rfl cl22 (ww_sameCache x8 x4 x12 q13) rfl (.cons (relAggL (.cons (.free rfl) (.cons (lendL rfl (.head _) rfl mEntryV_free mEntryV_len) .nil))) (.cons (relAgg rfl) .nil)) trivial memNil .nil (fun _ _ => List.not_mem_nil) rfl trivial memNil rfl rfl rfl rfl rfl rfl ?_
            refine s_mv (.inr rfl) (by conv => lhs; whnf) rfl rfl rfl ?_
            refine rt_nil ?_
            refine tri_ret ?_
            have e0 := (some1 h); subst e0
            exact endY [] [] (rvC (resTmp rfl) rvN) trivial trivial rfl rfl rfl rfl (.free rfl)
          · replace h := cond_f h c11
            refine tri_skip ?_
            refine tri_seq ?_
            refine tri_seq ?_
            refine tri_region ?_
            refine s_loadR rfl rfl rfl rfl ty43 rfl rfl rfl ?_
            refine bnd1_elim h fun x14 q15 h => ?_
            refine s_callN (kb := []) (ns := []) (v := .sc (.bool x14)) rfl rfl cl17 (wi_CacheOk x4 x14 q15) rfl (.cons (relAgg rfl) .nil) trivial memNil .nil memNil rfl trivial memNil rfl rfl rfl rfl rfl rfl ?_
            refine s_of (st_not rfl rfl) rfl rfl rfl rfl ?_
            refine rt_nil ?_
            refine tri_cond rfl (fun c16 => ?_) (fun c16 => ?_)
            · replace h := cond_t h c16
              refine tri_seq ?_
              refine tri_region ?_
              refine s_mv (.inr rfl) (v := .sc (.bool true)) rfl rfl rfl rfl ?_
              refine rt_nil ?_
              refine tri_ret ?_
              have e0 := (some1 h); subst e0
              exact endY [] [] (rvC (resTmp rfl) rvN) trivial trivial rfl rfl rfl rfl (.free rfl)
            · replace h := cond_f h c16
              refine tri_skip ?_
              refine tri_seq ?_
              refine tri_region ?_
              refine s_loadR rfl rfl rfl rfl ty43 rfl rfl rfl ?_
              refine s_mv (.inl rfl) (by conv => lhs; whnf) rfl rfl rfl ?_
              refine s_fieldAddr rfl rfl fd32_0 rfl rfl rfl rfl ?_
              refine s_load (v := .agg (questV x6.q)) rfl rfl rfl rfl ty29 rfl (.inl rfl) rfl rfl rfl rfl ?_
              refine s_fieldAddr rfl rfl fd32_3 rfl rfl rfl rfl ?_
              refine s_load rfl rfl rfl rfl ty3 rfl (.inr rfl) (by conv => lhs; whnf) rfl rfl rfl ?_
              refine bnd2_elim h fun x17 x18 q19 h => ?_
              refine s_callN (kb := [(26, 1)]) (ns := []) (v := .tup [.agg [.sc (.string x17.q.name), .sc (.int .i64 x17.q.ty), .sc (.int .i64 x17.kind), .ref (63, 103) 0 x17.l.length, .sc (.int .i64 x17.rank), .sc (.int .i64 x17.til)], .sc (.bool x18)]) rfl rfl cl25 (wi_Look x8 x5 x6.q x6.rank x17 x18 q19) rfl (.cons (relAggL (.cons (.free rfl) (.cons (lendL rfl (.head _) rfl mEntryV_free mEntryV_len) .nil))) (.cons (.free rfl) (.cons (relAgg rfl) (.cons (.free rfl) .nil)))) trivial memNil .nil (fun _ _ => List.not_mem_nil) rfl ⟨(allSc_map recV_sc), trivial⟩ memNil rfl (by first | (simp only [V.mat, V.mat1, V.mat0, matL, matT, List.length_map]; done) | (simp only [V.mat, V.mat1, V.mat0, matL, matT, List.length_map]; rfl)) rfl rfl rfl rfl ?_
              refine s_mv (.inl rfl) (by conv => lhs; whnf) rfl rfl rfl ?_
              refine s_extract rfl rfl rfl rfl rfl rfl ?_
              refine s_extract rfl rfl rfl rfl rfl rfl ?_
              refine s_alloc rfl rfl rfl zc32 rfl rfl rfl rfl rfl ?_
              refine s_storeB rfl rfl rfl ty32 rfl rfl rfl rfl rfl ?_
              refine s_mv (.inr rfl) (by conv => lhs; whnf) rfl rfl rfl ?_
              refine rt_nil ?_
              refine tri_seq ?_
              refine tri_region ?_
              refine s_loadR rfl rfl rfl rfl ty43 rfl rfl rfl ?_
              refine s_fieldAddr rfl rfl fd32_4 rfl rfl rfl rfl ?_
              refine s_load rfl rfl rfl rfl ty3 rfl (.inr rfl) (by conv => lhs; whnf) rfl rfl rfl ?_
              refine s_fieldAddr rfl rfl fd32_0 rfl rfl rfl rfl ?_
              refine s_load (v := .agg (questV x6.q)) rfl rfl rfl rfl ty29 rfl (.inl rfl) rfl rfl rfl rfl ?_
              refine s_fieldAddr rfl rfl fd32_3 rfl rfl rfl rfl ?_
              refine s_load rfl rfl rfl rfl ty3 rfl (.inr rfl) (by conv => lhs; whnf) rfl rfl rfl ?_
              refine bnd2_elim h fun x20 x21 q22 h => ?_
              refine s_callN (kb := [(26, 1)]) (ns := []) (v := .tup [.agg [.sc (.string x20.q.name), .sc (.int .i64 x20.q.ty), .sc (.int .i64 x20.kind), .ref (74, 103) 0 x20.l.length, .sc (.int .i64 x20.rank), .sc (.int .i64 x20.til)], .sc (.bool x21)]) rfl rfl cl25 (wi_Look x8 x6.til x6.q x6.rank x20 x21 q22) rfl (.cons (relAggL (.cons (.free rfl) (.cons (lendL rfl (.head _) rfl mEntryV_free mEntryV_len) .nil))) (.cons (.free rfl) (.cons (relAgg rfl) (.cons (.free rfl) .nil)))) trivial memNil .nil (fun _ _ => List.not_mem_nil) rfl ⟨(allSc_map recV_sc), trivial⟩ memNil rfl (by first | (simp only [V.mat, V.mat1, V.mat0, matL, matT, List.length_map]; done) | (simp only [V.mat, V.mat1, V.mat0, matL, matT, List.length_map]; rfl)) rfl rfl rfl rfl ?_
              refine s_mv (.inl rfl) (by conv => lhs; whnf) rfl rfl rfl ?_
              refine s_extract rfl rfl rfl rfl rfl rfl ?_
              refine s_extract rfl rfl rfl rfl rfl rfl ?_
              refine s_alloc rfl rfl rfl zc32 rfl rfl rfl rfl rfl ?_
              refine s_storeB rfl rfl rfl ty32 rfl rfl rfl rfl rfl ?_
              refine s_mv (.inr rfl) (by conv => lhs; whnf) rfl rfl rfl ?_
              refine rt_nil ?_
              refine tri_seq ?_
              refine tri_cutI (ι := { p : Bool // w_FnKeeps_j2 x4 x5 x6 x8 x17 x18 x21 p = some r0 }) (fun p => inv_w_FnKeeps_2 x4 x5 x6 x8 x17 x18 x21 p.1) ?_ ?_
              · skip
                refine tri_region ?_
                refine s_loadR rfl rfl rfl rfl ty43 rfl rfl rfl ?_
                refine bnd1_elim h fun x23 q24 h => ?_
                refine s_callN (kb := [(26, 1)]) (ns := []) (v := .sc (.bool x23)) rfl rfl cl17 (wi_CacheOk x8 x23 q24) rfl (.cons (relAggL (.cons (.free rfl) (.cons (lendL rfl (.head _) rfl mEntryV_free mEntryV_len) .nil))) .nil) trivial memNil .nil (fun _ _ => List.not_mem_nil) rfl trivial memNil rfl rfl rfl rfl rfl rfl ?_
                refine s_of (st_not rfl rfl) rfl rfl rfl rfl ?_
                refine s_mv (.inl rfl) (by conv => lhs; whnf) rfl rfl rfl ?_
                refine s_split (t := 80) rfl (fun b25 => ?_) (fun b25 => ?_)
                · replace h := cond_t h b25
                  refine s_skip rfl rfl rfl ?_
                  refine s_skip rfl rfl rfl ?_
                  refine s_skip rfl rfl rfl ?_
                  refine s_skip rfl rfl rfl ?_
                  refine s_skip rfl rfl rfl ?_
                  refine s_skip rfl rfl rfl ?_
                  refine s_skip rfl rfl rfl ?_
                  refine s_skip rfl rfl rfl ?_
                  refine s_pickT rfl rfl (v := .sc (.bool true)) rfl rfl rfl rfl ?_
                  refine s_mv (.inl rfl) (by conv => lhs; whnf) rfl rfl rfl ?_
                  refine s_skip rfl rfl rfl ?_
                  refine s_skip rfl rfl rfl ?_
                  refine s_skip rfl rfl rfl ?_
                  refine s_skip rfl rfl rfl ?_
                  refine s_skip rfl rfl rfl ?_
                  refine s_skip rfl rfl rfl ?_
                  refine s_pickT rfl rfl (v := .sc (.bool true)) rfl rfl rfl rfl ?_
                  refine rt_nil ?_
                  refine Exists.intro ⟨true, h⟩ ?_
                  refine entX [((3, 0), ⟨43, 2, [[.sc (.int .i64 x4.cap), .lst 6 (List.map mEntryV x4.l)]], false, true⟩, some (3, 0)), ((5, 0), ⟨32, 6, [[.sc (.string x6.q.name), .sc (.int .i64 x6.q.ty), .sc (.int .i64 x6.kind), .lst 6 (List.map recV x6.l), .sc (.int .i64 x6.rank), .sc (.int .i64 x6.til)]], false, true⟩, some (5, 0)), ((6, 0), ⟨43, 2, [[.sc (.int .i64 x8.cap), .ref (26, 1) 0 x8.l.length]], false, true⟩, some (6, 0)), ((26, 1), ⟨32, 6, List.map mEntryV x8.l, false, true⟩, some (26, 1)), ((7, 0), ⟨32, 6, [[.sc (.string x17.q.name), .sc (.int .i64 x17.q.ty), .sc (.int .i64 x17.kind), .ref (63, 103) 0 x17.l.length, .sc (.int .i64 x17.rank), .sc (.int .i64 x17.til)]], false, true⟩, some (7, 0)), ((63, 103), ⟨60, 6, List.map recV x17.l, false, true⟩, some (63, 103))] [] ⟨⟨rfl, _, rfl, rfl, rfl, rfl, id, rowsCv_one (.cons (.free rfl) (.cons (.free rfl) .nil)), rowsZ_one rfl⟩, ⟨rfl, _, rfl, rfl, rfl, rfl, id, rowsCv_one (.cons (.free rfl) (.cons (.free rfl) (.cons (.free rfl) (.cons (.free rfl) (.cons (.free rfl) (.cons (.free rfl) .nil)))))), rowsZ_one rfl⟩, ⟨rfl, _, rfl, rfl, rfl, rfl, id, rowsCv_one (.cons (.free rfl) (.cons (.ref rfl) .nil)), rowsZ_one rfl⟩, ⟨rfl, _, rfl, rfl, rfl, rfl, id, rowsCv_eq rfl (allFree_map mEntryV_free), rowsZ_map mEntryV_len⟩, ⟨rfl, _, rfl, rfl, rfl, rfl, id, rowsCv_one (.cons (.free rfl) (.cons (.free rfl) (.cons (.free rfl) (.cons (.ref rfl) (.cons (.free rfl) (.cons (.free rfl) .nil)))))), rowsZ_one rfl⟩, ⟨rfl, _, rfl, rfl, rfl, rfl, id, rowsCv_eq rfl (allFree_map recV_free), rowsZ_map recV_len⟩, trivial⟩ trivial rfl rfl ?_
                  exact ⟨(.ptr rfl), (.free rfl), (.ptr rfl), (.ptr rfl), (.ptr rfl), (.free rfl), (.free rfl), (.free rfl), trivial⟩
                · replace h := cond_f h b25
                  refine s_fieldAddr rfl rfl fd43_1 rfl rfl rfl rfl ?_
                  refine s_load rfl rfl rfl rfl ty41 rfl (.inr rfl) (by conv => lhs; whnf) rfl rfl rfl ?_
                  refine s_len (m := x8.l.length) rfl sl41 rfl rfl rfl rfl ?_
                  refine s_fieldAddr rfl rfl fd43_1 rfl rfl rfl rfl ?_
                  refine s_load rfl rfl rfl rfl ty41 rfl (.inr rfl) (by conv => lhs; whnf) rfl rfl rfl ?_
                  refine s_lenL rfl sl41 rfl rfl rfl rfl ?_
                  refine grd_elim h fun g26 h => ?_
                  refine s_addI rfl rfl rfl rfl g26 rfl rfl rfl ?_
                  refine s_of (st_gtr rfl rfl rfl) rfl rfl rfl rfl ?_
                  refine s_pickF rfl rfl (by conv => lhs; whnf) rfl rfl rfl ?_
                  refine s_mv (.inl rfl) (by conv => lhs; whnf) rfl rfl rfl ?_
                  refine s_split (t := 90) rfl (fun b27 => ?_) (fun b27 => ?_)
                  · replace h := cond_t h b27
                    refine s_skip rfl rfl rfl ?_
                    refine s_skip rfl rfl rfl ?_
                    refine s_skip rfl rfl rfl ?_
                    refine s_skip rfl rfl rfl ?_
                    refine s_skip rfl rfl rfl ?_
                    refine s_skip rfl rfl rfl ?_
                    refine s_pickT rfl rfl (v := .sc (.bool true)) rfl rfl rfl rfl ?_
                    refine rt_nil ?_
                    refine Exists.intro ⟨true, h⟩ ?_
                    refine entX [((3, 0), ⟨43, 2, [[.sc (.int .i64 x4.cap), .lst 6 (List.map mEntryV x4.l)]], false, true⟩, some (3, 0)), ((5, 0), ⟨32, 6, [[.sc (.string x6.q.name), .sc (.int .i64 x6.q.ty), .sc (.int .i64 x6.kind), .lst 6 (List.map recV x6.l), .sc (.int .i64 x6.rank), .sc (.int .i64 x6.til)]], false, true⟩, some (5, 0)), ((6, 0), ⟨43, 2, [[.sc (.int .i64 x8.cap), .ref (26, 1) 0 x8.l.length]], false, true⟩, some (6, 0)), ((26, 1), ⟨32, 6, List.map mEntryV x8.l, false, true⟩, some (26, 1)), ((7, 0), ⟨32, 6, [[.sc (.string x17.q.name), .sc (.int .i64 x17.q.ty), .sc (.int .i64 x17.kind), .ref (63, 103) 0 x17.l.length, .sc (.int .i64 x17.rank), .sc (.int .i64 x17.til)]], false, true⟩, some (7, 0)), ((63, 103), ⟨60, 6, List.map recV x17.l, false, true⟩, some (63, 103))] [] ⟨⟨rfl, _, rfl, rfl, rfl, rfl, id, rowsCv_one (.cons (.free rfl) (.cons (.free rfl) .nil)), rowsZ_one rfl⟩, ⟨rfl, _, rfl, rfl, rfl, rfl, id, rowsCv_one (.cons (.free rfl) (.cons (.free rfl) (.cons (.free rfl) (.cons (.free rfl) (.cons (.free rfl) (.cons (.free rfl) .nil)))))), rowsZ_one rfl⟩, ⟨rfl, _, rfl, rfl, rfl, rfl, id, rowsCv_one (.cons (.free rfl) (.cons (.ref rfl) .nil)), rowsZ_one rfl⟩, ⟨rfl, _, rfl, rfl, rfl, rfl, id, rowsCv_eq rfl (allFree_map mEntryV_free), rowsZ_map mEntryV_len⟩, ⟨rfl, _, rfl, rfl, rfl, rfl, id, rowsCv_one (.cons (.free rfl) (.cons (.free rfl) (.cons (.free rfl) (.cons (.ref rfl) (.cons (.free rfl) (.cons (.free rfl) .nil)))))), rowsZ_one rfl⟩, ⟨rfl, _, rfl, rfl, rfl, rfl, id, rowsCv_eq rfl (allFree_map recV_free), rowsZ_map recV_len⟩, trivial⟩ trivial rfl rfl ?_
                    exact ⟨(.ptr rfl), (.free rfl), (.ptr rfl), (.ptr rfl), (.ptr rfl), (.free rfl), (.free rfl), (.free rfl), trivial⟩
                  · replace h := cond_f h b27
                    refine s_fieldAddr rfl rfl fd43_1 rfl rfl rfl rfl ?_
                    refine s_load rfl rfl rfl rfl ty41 rfl (.inr rfl) (by conv => lhs; whnf) rfl rfl rfl ?_
                    refine s_len (m := x8.l.length) rfl sl41 rfl rfl rfl rfl ?_
                    refine s_fieldAddr rfl rfl fd43_0 rfl rfl rfl rfl ?_
                    refine s_load rfl rfl rfl rfl ty3 rfl (.inr rfl) (by conv => lhs; whnf) rfl rfl rfl ?_
                    refine s_of (st_gtr rfl rfl rfl) rfl rfl rfl rfl ?_
                    refine s_pickF rfl rfl (by conv => lhs; whnf) rfl rfl rfl ?_
                    refine rt_nil ?_
                    refine Exists.intro ⟨decide (x4.cap < (x8.l.length : Int)), h⟩ ?_
                    refine entX [((3, 0), ⟨43, 2, [[.sc (.int .i64 x4.cap), .lst 6 (List.map mEntryV x4.l)]], false, true⟩, some (3, 0)), ((5, 0), ⟨32, 6, [[.sc (.string x6.q.name), .sc (.int .i64 x6.q.ty), .sc (.int .i64 x6.kind), .lst 6 (List.map recV x6.l), .sc (.int .i64 x6.rank), .sc (.int .i64 x6.til)]], false, true⟩, some (5, 0)), ((6, 0), ⟨43, 2, [[.sc (.int .i64 x8.cap), .ref (26, 1) 0 x8.l.length]], false, true⟩, some (6, 0)), ((26, 1), ⟨32, 6, List.map mEntryV x8.l, false, true⟩, some (26, 1)), ((7, 0), ⟨32, 6, [[.sc (.string x17.q.name), .sc (.int .i64 x17.q.ty), .sc (.int .i64 x17.kind), .ref (63, 103) 0 x17.l.length, .sc (.int .i64 x17.rank), .sc (.int .i64 x17.til)]], false, true⟩, some (7, 0)), ((63, 103), ⟨60, 6, List.map recV x17.l, false, true⟩, some (63, 103))] [] ⟨⟨rfl, _, rfl, rfl, rfl, rfl, id, rowsCv_one (.cons (.free rfl) (.cons (.free rfl) .nil)), rowsZ_one rfl⟩, ⟨rfl, _, rfl, rfl, rfl, rfl, id, rowsCv_one (.cons (.free rfl) (.cons (.free rfl) (.cons (.free rfl) (.cons (.free rfl) (.cons (.free rfl) (.cons (.free rfl) .nil)))))), rowsZ_one rfl⟩, ⟨rfl, _, rfl, rfl, rfl, rfl, id, rowsCv_one (.cons (.free rfl) (.cons (.ref rfl) .nil)), rowsZ_one rfl⟩, ⟨rfl, _, rfl, rfl, rfl, rfl, id, rowsCv_eq rfl (allFree_map mEntryV_free), rowsZ_map mEntryV_len⟩, ⟨rfl, _, rfl, rfl, rfl, rfl, id, rowsCv_one (.cons (.free rfl) (.cons (.free rfl) (.cons (.free rfl) (.cons (.ref rfl) (.cons (.free rfl) (.cons (.free rfl) .nil)))))), rowsZ_one rfl⟩, ⟨rfl, _, rfl, rfl, rfl, rfl, id, rowsCv_eq rfl (allFree_map recV_free), rowsZ_map recV_len⟩, trivial⟩ trivial rfl rfl ?_
                    exact ⟨(.ptr rfl), (.free rfl), (.ptr rfl), (.ptr rfl), (.ptr rfl), (.free rfl), (.free rfl), (.free rfl), trivial⟩
              · rintro ⟨j2_0, h⟩
                replace h : w_FnKeeps_j2 x4 x5 x6 x8 x17 x18 x21 j2_0 = some r0 := h
                unfold w_FnKeeps_j2 at h
                show Tri _ _ _ (inv_w_FnKeeps_2 x4 x5 x6 x8 x17 x18 x21 j2_0)
                refine tri_cond rfl (fun c23 => ?_) (fun c23 => ?_)
                · replace h := cond_t h c23
                  refine tri_seq ?_
                  refine tri_region ?_
                  refine s_mv (.inr rfl) (v := .sc (.bool false)) rfl rfl rfl rfl ?_
                  refine rt_nil ?_
                  refine tri_ret ?_
                  have e0 := (some1 h); subst e0
                  exact endY [] [] (rvC (resTmp rfl) rvN) trivial trivial rfl rfl rfl rfl (.free rfl)
                · replace h := cond_f h c23
                  refine tri_skip ?_
                  refine tri_seq ?_
                  refine tri_region ?_
                  refine s_loadR rfl rfl rfl rfl ty43 rfl rfl rfl ?_
                  refine s_mv (.inl rfl) (by conv => lhs; whnf) rfl rfl rfl ?_
                  refine s_fieldAddr rfl rfl fd32_0 rfl rfl rfl rfl ?_
                  refine s_load (v := .agg (questV x6.q)) rfl rfl rfl rfl ty29 rfl (.inl rfl) rfl rfl rfl rfl ?_
                  refine s_fieldAddr rfl rfl fd32_3 rfl rfl rfl rfl ?_
                  refine s_load rfl rfl rfl rfl ty3 rfl (.inr rfl) (by conv => lhs; whnf) rfl rfl rfl ?_
                  refine grd_elim h fun g24 h => ?_
                  refine s_addI rfl rfl rfl rfl g24 rfl rfl rfl ?_
                  refine bnd2_elim h fun x25 x26 q27 h => ?_
                  refine s_callN (kb := []) (ns := []) (v := .tup [.agg [.sc (.string x25.q.name), .sc (.int .i64 x25.q.ty), .sc (.int .i64 x25.kind), .ref (106, 103) 0 x25.l.length, .sc (.int .i64 x25.rank), .sc (.int .i64 x25.til)], .sc (.bool x26)]) rfl rfl cl25 (wi_Look x4 x5 x6.q (x6.rank + 1) x25 x26 q27) rfl (.cons (relAgg rfl) (.cons (.free rfl) (.cons (relAgg rfl) (.cons (.free rfl) .nil)))) trivial memNil .nil memNil rfl ⟨(allSc_map recV_sc), trivial⟩ memNil rfl (by first | (simp only [V.mat, V.mat1, V.mat0, matL, matT, List.length_map]; done) | (simp only [V.mat, V.mat1, V.mat0, matL, matT, List.length_map]; rfl)) rfl rfl rfl rfl ?_
                  refine s_mv (.inl rfl) (by conv => lhs; whnf) rfl rfl rfl ?_
                  refine s_extract rfl rfl rfl rfl rfl rfl ?_
                  refine s_extract rfl rfl rfl rfl rfl rfl ?_
                  refine s_alloc rfl rfl rfl zc32 rfl rfl rfl rfl rfl ?_
                  refine s_storeB rfl rfl rfl ty32 rfl rfl rfl rfl rfl ?_
                  refine s_mv (.inr rfl) (by conv => lhs; whnf) rfl rfl rfl ?_
                  refine rt_nil ?_
                  refine tri_seq ?_
                  refine tri_seq ?_
                  refine tri_region ?_
                  refine s_mv (.inl rfl) (by conv => lhs; whnf) rfl rfl rfl ?_
                  refine rt_nil ?_
                  refine tri_cond rfl (fun c28 => ?_) (fun c28 => ?_)
                  · replace h := cond_t h c28
                    refine tri_seq ?_
                    refine tri_region ?_
                    refine s_loadR rfl rfl rfl rfl ty43 rfl rfl rfl ?_
                    refine s_mv (.inl rfl) (by conv => lhs; whnf) rfl rfl rfl ?_
                    refine s_fieldAddr rfl rfl fd32_0 rfl rfl rfl rfl ?_
                    refine s_load (v := .agg (questV x6.q)) rfl rfl rfl rfl ty29 rfl (.inl rfl) rfl rfl rfl rfl ?_
                    refine s_fieldAddr rfl rfl fd32_3 rfl rfl rfl rfl ?_
                    refine s_load rfl rfl rfl rfl ty3 rfl (.inr rfl) (by conv => lhs; whnf) rfl rfl rfl ?_
                    refine grd_elim h fun g29 h => ?_
                    refine s_addI rfl rfl rfl rfl g29 rfl rfl rfl ?_
                    refine bnd2_elim h fun x30 x31 q32 h => ?_
                    refine s_callN (kb := [(26, 1)]) (ns := []) (v := .tup [.agg [.sc (.string x30.q.name), .sc (.int .i64 x30.q.ty), .sc (.int .i64 x30.kind), .ref (118, 103) 0 x30.l.length, .sc (.int .i64 x30.rank), .sc (.int .i64 x30.til)], .sc (.bool x31)]) rfl rfl cl25 (wi_Look x8 x5 x6.q (x6.rank + 1) x30 x31 q32) rfl (.cons (relAggL (.cons (.free rfl) (.cons (lendL rfl (.head _) rfl mEntryV_free mEntryV_len) .nil))) (.cons (.free rfl) (.cons (relAgg rfl) (.cons (.free rfl) .nil)))) trivial memNil .nil (fun _ _ => List.not_mem_nil) rfl ⟨(allSc_map recV_sc), trivial⟩ memNil rfl (by first | (simp only [V.mat, V.mat1, V.mat0, matL, matT, List.length_map]; done) | (simp only [V.mat, V.mat1, V.mat0, matL, matT, List.length_map]; rfl)) rfl rfl rfl rfl ?_
                    refine s_mv (.inl rfl) (by conv => lhs; whnf) rfl rfl rfl ?_
                    refine s_extract rfl rfl rfl rfl rfl rfl ?_
                    refine s_extract rfl rfl rfl rfl rfl rfl ?_
                    refine s_alloc rfl rfl rfl zc32 rfl rfl rfl rfl rfl ?_
                    refine s_storeB rfl rfl rfl ty32 rfl rfl rfl rfl rfl ?_
                    refine s_mv (.inr rfl) (by conv => lhs; whnf) rfl rfl rfl ?_
                    refine rt_nil ?_
                    refine tri_seq ?_
                    refine tri_region ?_
                    refine s_loadR rfl rfl rfl rfl ty32 rfl rfl rfl ?_
                    refine s_loadR rfl rfl rfl rfl ty32 rfl rfl rfl ?_
                    refine bnd1_elim h fun x33 q34 h => ?_
                    refine s_callN (kb := [(118, 103), (106, 103)]) (ns := []) (v := .sc (.bool x33)) rfl rfl cl29 (ww_sameEntry x30 x25 x33 q34) rfl (.cons (relAggL (.cons (.free rfl) (.cons (.free rfl) (.cons (.free rfl) (.cons (lendL rfl (.head _) rfl recV_free recV_len) (.cons (.free rfl) (.cons (.free rfl) .nil))))))) (.cons (relAggL (.cons (.free rfl) (.cons (.free rfl) (.cons (.free rfl) (.cons (lendL rfl (.tail _ (.head _)) rfl recV_free recV_len) (.cons (.free rfl) (.cons (.free rfl) .nil))))))) .nil)) trivial memNil .nil (fun _ _ => List.not_mem_nil) rfl trivial memNil rfl rfl rfl rfl rfl rfl ?_
                    refine s_mv (.inl rfl) (by conv => lhs; whnf) rfl rfl rfl ?_
                    refine s_split (t := 124) rfl (fun b35 => ?_) (fun b35 => ?_)
                    · replace h := cond_t h b35
                      refine s_mv (.inl rfl) (by conv => lhs; whnf) rfl rfl rfl ?_
                      refine s_pickT rfl rfl (by conv => lhs; whnf) rfl rfl rfl ?_
                      refine s_mv (.inr rfl) (by conv => lhs; whnf) rfl rfl rfl ?_
                      refine rt_nil ?_
                      refine tri_ret ?_
                      have e0 := (some1 h); subst e0
                      exact endY [] [] (rvC (resTmp rfl) rvN) trivial trivial rfl rfl rfl rfl (.free rfl)
                    · replace h := cond_f h b35
                      refine s_skip rfl rfl rfl ?_
                      refine s_pickF rfl rfl (v := .sc (.bool false)) rfl rfl rfl rfl ?_
                      refine s_mv (.inr rfl) (by conv => lhs; whnf) rfl rfl rfl ?_
                      refine rt_nil ?_
                      refine tri_ret ?_
                      have e0 := (some1 h); subst e0
                      exact endY [] [] (rvC (resTmp rfl) rvN) trivial trivial rfl rfl rfl rfl (.free rfl)
                  · replace h := cond_f h c28
                    refine tri_skip ?_
                    refine tri_seq ?_
                    refine tri_region ?_
                    refine s_mv (.inl rfl) (by conv => lhs; whnf) rfl rfl rfl ?_
                    refine s_mv (.inl rfl) (by conv => lhs; whnf) rfl rfl rfl ?_
                    refine s_split (t := 128) rfl (fun b36 => ?_) (fun b36 => ?_)
                    · replace h := cond_t h b36
                      refine s_fieldAddr rfl rfl fd32_1 rfl rfl rfl rfl ?_
                      refine s_load rfl rfl rfl rfl ty3 rfl (.inr rfl) (by conv => lhs; whnf) rfl rfl rfl ?_
                      refine s_fieldAddr rfl rfl fd32_1 rfl rfl rfl rfl ?_
                      refine s_load rfl rfl rfl rfl ty3 rfl (.inr rfl) (by conv => lhs; whnf) rfl rfl rfl ?_
                      refine s_of (st_eqI rfl rfl rfl) rfl rfl rfl rfl ?_
                      refine s_pickT rfl rfl (by conv => lhs; whnf) rfl rfl rfl ?_
                      refine s_mv (.inl rfl) (by conv => lhs; whnf) rfl rfl rfl ?_
                      refine s_split (t := 135) rfl (fun b37 => ?_) (fun b37 => ?_)
                      · replace h := cond_t h b37
                        refine s_fieldAddr rfl rfl fd32_2 rfl rfl rfl rfl ?_
                        refine s_load rfl rfl rfl rfl ty30 rfl (.inr rfl) (by conv => lhs; whnf) rfl rfl rfl ?_
                        refine s_fieldAddr rfl rfl fd32_2 rfl rfl rfl rfl ?_
                        refine s_load rfl rfl rfl rfl ty30 rfl (.inr rfl) (by conv => lhs; whnf) rfl rfl rfl ?_
                        refine bnd1_elim h fun x38 q39 h => ?_
                        refine s_callN (kb := [(63, 103)]) (ns := []) (v := .sc (.bool x38)) rfl rfl cl35 (wi_SameData x17.l x6.l x38 q39) rfl (.cons (lendL rfl (.head _) rfl recV_free recV_len) (.cons (.free rfl) .nil)) trivial memNil .nil (fun _ _ => List.not_mem_nil) rfl trivial memNil rfl rfl rfl rfl rfl rfl ?_
                        refine s_pickT rfl rfl (by conv => lhs; whnf) rfl rfl rfl ?_
                        refine s_mv (.inl rfl) (by conv => lhs; whnf) rfl rfl rfl ?_
                        refine s_split (t := 142) rfl (fun b40 => ?_) (fun b40 => ?_)
                        · replace h := cond_t h b40
                          refine s_fieldAddr rfl rfl fd32_4 rfl rfl rfl rfl ?_
                          refine s_load rfl rfl rfl rfl ty3 rfl (.inr rfl) (by conv => lhs; whnf) rfl rfl rfl ?_
                          refine s_fieldAddr rfl rfl fd32_4 rfl rfl rfl rfl ?_
                          refine s_load rfl rfl rfl rfl ty3 rfl (.inr rfl) (by conv => lhs; whnf) rfl rfl rfl ?_
                          refine s_of (st_eqI rfl rfl rfl) rfl rfl rfl rfl ?_
                          refine s_pickT rfl rfl (by conv => lhs; whnf) rfl rfl rfl ?_
                          refine s_mv (.inl rfl) (by conv => lhs; whnf) rfl rfl rfl ?_
                          refine s_split (t := 149) rfl (fun b41 => ?_) (fun b41 => ?_)
                          · replace h := cond_t h b41
                            refine s_mv (.inl rfl) (by conv => lhs; whnf) rfl rfl rfl ?_
                            refine s_of (st_not rfl rfl) rfl rfl rfl rfl ?_
                            refine s_pickT rfl rfl (by conv => lhs; whnf) rfl rfl rfl ?_
                            refine s_mv (.inr rfl) (by conv => lhs; whnf) rfl rfl rfl ?_
                            refine rt_nil ?_
                            refine tri_ret ?_
                            have e0 := (some1 h); subst e0
                            exact endY [] [] (rvC (resTmp rfl) rvN) trivial trivial rfl rfl rfl rfl (.free rfl)
                          · replace h := cond_f h b41
                            refine s_skip rfl rfl rfl ?_
                            refine s_skip rfl rfl rfl ?_
                            refine s_pickF rfl rfl (v := .sc (.bool false)) rfl rfl rfl rfl ?_
                            refine s_mv (.inr rfl) (by conv => lhs; whnf) rfl rfl rfl ?_
                            refine rt_nil ?_
                            refine tri_ret ?_
                            have e0 := (some1 h); subst e0
                            exact endY [] [] (rvC (resTmp rfl) rvN) trivial trivial rfl rfl rfl rfl (.free rfl)
                        · replace h := cond_f h b40
                          refine s_skip rfl rfl rfl ?_
                          refine s_skip rfl rfl rfl ?_
                          refine s_skip rfl rfl rfl ?_
                          refine s_skip rfl rfl rfl ?_
                          refine s_skip rfl rfl rfl ?_
                          refine s_pickF rfl rfl (v := .sc (.bool false)) rfl rfl rfl rfl ?_
                          refine s_mv (.inl rfl) (by conv => lhs; whnf) rfl rfl rfl ?_
                          refine s_skip rfl rfl rfl ?_
                          refine s_skip rfl rfl rfl ?_
                          refine s_pickF rfl rfl (v := .sc (.bool false)) rfl rfl rfl rfl ?_
                          refine s_mv (.inr rfl) (by conv => lhs; whnf) rfl rfl rfl ?_
                          refine rt_nil ?_
                          refine tri_ret ?_
                          have e0 := (some1 h); subst e0
                          exact endY [] [] (rvC (resTmp rfl) rvN) trivial trivial rfl rfl rfl rfl (.free rfl)
                      · replace h := cond_f h b37
                        refine s_skip rfl rfl rfl ?_
                        refine s_skip rfl rfl rfl ?_
                        refine s_skip rfl rfl rfl ?_
                        refine s_skip rfl rfl rfl ?_
                        refine s_skip rfl rfl rfl ?_
                        refine s_pickF rfl rfl (v := .sc (.bool false)) rfl rfl rfl rfl ?_
                        refine s_mv (.inl rfl) (by conv => lhs; whnf) rfl rfl rfl ?_
                        refine s_skip rfl rfl rfl ?_
                        refine s_skip rfl rfl rfl ?_
                        refine s_skip rfl rfl rfl ?_
                        refine s_skip rfl rfl rfl ?_
                        refine s_skip rfl rfl rfl ?_
                        refine s_pickF rfl rfl (v := .sc (.bool false)) rfl rfl rfl rfl ?_
                        refine s_mv (.inl rfl) (by conv => lhs; whnf) rfl rfl rfl ?_
                        refine s_skip rfl rfl rfl ?_
                        refine s_skip rfl rfl rfl ?_
                        refine s_pickF rfl rfl (v := .sc (.bool false)) rfl rfl rfl rfl ?_
                        refine s_mv (.inr rfl) (by conv => lhs; whnf) rfl rfl rfl ?_
                        refine rt_nil ?_
                        refine tri_ret ?_
                        have e0 := (some1 h); subst e0
                        exact endY [] [] (rvC (resTmp rfl) rvN) trivial trivial rfl rfl rfl rfl (.free rfl)
                    · replace h := cond_f h b36
                      refine s_skip rfl rfl rfl ?_
                      refine s_skip rfl rfl rfl ?_
                      refine s_skip rfl rfl rfl ?_
                      refine s_skip rfl rfl rfl ?_
                      refine s_skip rfl rfl rfl ?_
                      refine s_pickF rfl rfl (v := .sc (.bool false)) rfl rfl rfl rfl ?_
                      refine s_mv (.inl rfl) (by conv => lhs; whnf) rfl rfl rfl ?_
                      refine s_skip rfl rfl rfl ?_
                      refine s_skip rfl rfl rfl ?_
                      refine s_skip rfl rfl rfl ?_
                      refine s_skip rfl rfl rfl ?_
                      refine s_skip rfl rfl rfl ?_
                      refine s_pickF rfl rfl (v := .sc (.bool false)) rfl rfl rfl rfl ?_
                      refine s_mv (.inl rfl) (by conv => lhs; whnf) rfl rfl rfl ?_
                      refine s_skip rfl rfl rfl ?_
                      refine s_skip rfl rfl rfl ?_
                      refine s_skip rfl rfl rfl ?_
                      refine s_skip rfl rfl rfl ?_
                      refine s_skip rfl rfl rfl ?_
                      refine s_pickF rfl rfl (v := .sc (.bool false)) rfl rfl rfl rfl ?_
                      refine s_mv (.inl rfl) (by conv => lhs; whnf) rfl rfl rfl ?_
                      refine s_skip rfl rfl rfl ?_
                      refine s_skip rfl rfl rfl ?_
                      refine s_pickF rfl rfl (v := .sc (.bool false)) rfl rfl rfl rfl ?_
                      refine s_mv (.inr rfl) (by conv => lhs; whnf) rfl rfl rfl ?_
                      refine rt_nil ?_
                      refine tri_ret ?_
                      have e0 := (some1 h); subst e0
                      exact endY [] [] (rvC (resTmp rfl) rvN) trivial trivial rfl rfl rfl rfl (.free rfl)

end Go.Abs.M
