/- Walks of the functions that the law of Keep reaches: what each of them computes, where its pure function does not fail. -/
import Derived.Test.YtcdpmfnjajjlkaaDoorWalkKeep1
set_option linter.unusedSimpArgs false
set_option linter.unusedVariables false
namespace Go.Abs.M
open Go Go.Abs Go.Proofs
theorem byt47 : isBytes Tryd.prog 47 = some 5 := by kernel_rfl
theorem cl111 : callable Tryd.prog 111 = true := by kernel_rfl
theorem cl112 : callable Tryd.prog 112 = true := by kernel_rfl
theorem cl12 : callable Tryd.prog 12 = true := by kernel_rfl
theorem cl13 : callable Tryd.prog 13 = true := by kernel_rfl
theorem cl14 : callable Tryd.prog 14 = true := by kernel_rfl
theorem cl16 : callable Tryd.prog 16 = true := by kernel_rfl
theorem cl18 : callable Tryd.prog 18 = true := by kernel_rfl
theorem cl33 : callable Tryd.prog 33 = true := by kernel_rfl
theorem cl34 : callable Tryd.prog 34 = true := by kernel_rfl
theorem cl36 : callable Tryd.prog 36 = true := by kernel_rfl
theorem cl37 : callable Tryd.prog 37 = true := by kernel_rfl
theorem cl38 : callable Tryd.prog 38 = true := by kernel_rfl
theorem cl51 : callable Tryd.prog 51 = true := by kernel_rfl
theorem cl52 : callable Tryd.prog 52 = true := by kernel_rfl
theorem cl58 : callable Tryd.prog 58 = true := by kernel_rfl
theorem cl62 : callable Tryd.prog 62 = true := by kernel_rfl
theorem cl75 : callable Tryd.prog 75 = true := by kernel_rfl
theorem cl76 : callable Tryd.prog 76 = true := by kernel_rfl
theorem cl77 : callable Tryd.prog 77 = true := by kernel_rfl
theorem cl78 : callable Tryd.prog 78 = true := by kernel_rfl
theorem cl82 : callable Tryd.prog 82 = true := by kernel_rfl
theorem cl83 : callable Tryd.prog 83 = true := by kernel_rfl
theorem cl84 : callable Tryd.prog 84 = true := by kernel_rfl
theorem cl99 : callable Tryd.prog 99 = true := by kernel_rfl
theorem sl47 : slTy Tryd.prog 47 = some (5, 1, 1) := by kernel_rfl
theorem ty38 : tyK Tryd.prog 38 = some (true, 2) := by kernel_rfl
theorem zc5 : zeroC Tryd.prog 5 = some [.int .u8 0] := by kernel_rfl
/- impl.Keep -/
def inv_i_Keep_1 (x1 : MCache) (x4 : MEntry) (x6 : Int) (j1_0 : Bool) : St := mkT 70 [(3, .ptr (3, 0) 0 0), (5, .ptr (5, 0) 0 0), (6, .ptr (6, 0) 0 0), (7, .sc (.int .i64 x6)), (46, .sc (.bool j1_0))] [((3, 0), some ⟨43, 2, [[.sc (.int .i64 x1.cap), .ref (9, 1) 0 x1.l.length]], false, true⟩), ((9, 1), some ⟨32, 6, List.map mEntryV x1.l, false, true⟩), ((5, 0), some ⟨32, 6, [[.sc (.string x4.q.name), .sc (.int .i64 x4.q.ty), .sc (.int .i64 x4.kind), .lst 6 (List.map recV x4.l), .sc (.int .i64 x4.rank), .sc (.int .i64 x4.til)]], false, true⟩), ((6, 0), some ⟨43, 2, [[.sc (.int .i64 0), .nils]], false, true⟩)]
def inv_i_Keep_2 (x1 : MCache) (x4 : MEntry) (j2_0 : List MEntry) : St := mkT 70 [(3, .ptr (3, 0) 0 0), (5, .ptr (5, 0) 0 0), (6, .ptr (6, 0) 0 0)] [((3, 0), some ⟨43, 2, [[.sc (.int .i64 x1.cap), .ref (9, 1) 0 j2_0.length]], false, true⟩), ((9, 1), some ⟨32, 6, List.map mEntryV j2_0, false, true⟩), ((5, 0), some ⟨32, 6, [[.sc (.string x4.q.name), .sc (.int .i64 x4.q.ty), .sc (.int .i64 x4.kind), .lst 6 (List.map recV x4.l), .sc (.int .i64 x4.rank), .sc (.int .i64 x4.til)]], false, true⟩), ((6, 0), some ⟨43, 2, [[.sc (.int .i64 0), .nils]], false, true⟩)]
def inv_i_Keep_0 (p1 : Int) (p2 : MEntry) (x1 : MCache) (j0_0 : Bool) : St := mkT 70 [(1, .sc (.int .i64 p1)), (3, .ptr (3, 0) 0 0), (5, .ptr (5, 0) 0 0), (6, .ptr (6, 0) 0 0), (18, .sc (.bool j0_0))] [((3, 0), some ⟨43, 2, [[.sc (.int .i64 x1.cap), .ref (9, 1) 0 x1.l.length]], false, true⟩), ((9, 1), some ⟨32, 6, List.map mEntryV x1.l, false, true⟩), ((5, 0), some ⟨32, 6, [[.sc (.string p2.q.name), .sc (.int .i64 p2.q.ty), .sc (.int .i64 p2.kind), .lst 6 (List.map recV p2.l), .sc (.int .i64 p2.rank), .sc (.int .i64 p2.til)]], false, true⟩), ((6, 0), some ⟨43, 2, [[.sc (.int .i64 0), .nils]], false, true⟩)]
set_option maxRecDepth 4000 in
set_option maxHeartbeats 800000 in
theorem wi_Keep (p0 : MCache) (p1 : Int) (p2 : MEntry) (r0 : MCache) (h : i_Keep p0 p1 p2 = some r0) : Runs Tryd.prog 33 [.agg (mCacheV p0), .sc (.int .i64 p1), .agg (mEntryV p2)] [] (.agg [.sc (.int .i64 r0.cap), .own 32 6 (List.map mEntryV r0.l)]) [] := by
 unfold i_Keep at h
 refine runsR [.cell 6 43] Tryd.func33 rfl rfl rfl rfl ?_
 rw [Tryd.ntmps33]
 refine tri_sr ?_
 refine s_box rfl rfl rfl rfl rfl rfl rfl ?_
 refine s_box rfl rfl rfl rfl rfl rfl rfl ?_
 refine s_alloc rfl rfl rfl zc43 rfl rfl rfl rfl rfl ?_
 refine rt_nil ?_
 refine tri_sr ?_
 refine s_loadR rfl rfl rfl rfl ty43 rfl rfl rfl ?_
 refine bnd1_elim h fun x1 q2 h => ?_
 refine s_callZ (kb := []) (ns := []) (v := .agg [.sc (.int .i64 x1.cap), .ref (9, 1) 0 x1.l.length]) rfl rfl cl62 (wi_copyCache (MCache.mk p0.cap p0.l) x1 q2) rfl (.cons (relAgg rfl) .nil) trivial memNil .nil memNil trivial rfl ⟨(allFree_map mEntryV_free), trivial⟩ memNil rfl (by simp only [V.mat, V.mat1, V.mat0, matL, matT, List.length_map] <;> rfl) rfl rfl rfl rfl ?_
 refine s_storeB rfl rfl rfl ty43 rfl rfl rfl rfl rfl ?_
 refine rt_nil ?_
 refine tri_seq ?_
 refine tri_cutI (ι := { p : Bool // i_Keep_j0 p1 p2 x1 p = some r0 }) (fun p => inv_i_Keep_0 p1 p2 x1 p.1) ?_ ?_
 ·skip
  refine tri_region ?_
  refine s_loadR rfl rfl rfl rfl ty32 rfl rfl rfl ?_
  refine bnd1_elim h fun x3 q4 h => ?_
  refine s_callN (kb := []) (ns := []) (v := .sc (.bool x3)) rfl rfl cl12 (wi_EntryOk (MEntry.mk (Quest.mk p2.q.name p2.q.ty) p2.kind p2.l p2.rank p2.til) x3 q4) rfl (.cons (relAgg rfl) .nil) trivial memNil .nil memNil rfl trivial memNil rfl rfl rfl rfl rfl rfl ?_
  refine s_of (st_not rfl rfl) rfl rfl rfl rfl ?_
  refine m1 ?_
  refine s_split (t := 13) rfl (fun b5 => ?_) (fun b5 => ?_)
  ·replace h := cond_t h b5
   refine s_skip rfl rfl rfl ?_
   refine s_skip rfl rfl rfl ?_
   refine s_skip rfl rfl rfl ?_
   refine s_skip rfl rfl rfl ?_
   refine s_pickT rfl rfl (v := .sc (.bool true)) rfl rfl rfl rfl ?_
   refine rt_nil ?_
   refine Exists.intro ⟨true, h⟩ ?_
   refine entX [((3, 0), ⟨43, 2, [[.sc (.int .i64 x1.cap), .ref (9, 1) 0 x1.l.length]], false, true⟩, some (3, 0)), ((9, 1), ⟨32, 6, List.map mEntryV x1.l, false, true⟩, some (9, 1)), ((5, 0), ⟨32, 6, [[.sc (.string p2.q.name), .sc (.int .i64 p2.q.ty), .sc (.int .i64 p2.kind), .lst 6 (List.map recV p2.l), .sc (.int .i64 p2.rank), .sc (.int .i64 p2.til)]], false, true⟩, some (5, 0)), ((6, 0), ⟨43, 2, [[.sc (.int .i64 0), .nils]], false, true⟩, some (6, 0))] [] ⟨⟨rfl, _, rfl, rfl, rfl, rfl, id, rowsCv_one (.cons (.free rfl) (.cons (.ref rfl) .nil)), rowsZ_one rfl⟩, ⟨rfl, _, rfl, rfl, rfl, rfl, id, rowsCv_eq rfl (allFree_map mEntryV_free), rowsZ_map mEntryV_len⟩, ⟨rfl, _, rfl, rfl, rfl, rfl, id, rowsCv_one (.cons (.free rfl) (.cons (.free rfl) (.cons (.free rfl) (.cons (.free rfl) (.cons (.free rfl) (.cons (.free rfl) .nil)))))), rowsZ_one rfl⟩, ⟨rfl, _, rfl, rfl, rfl, rfl, id, rowsCv_one (.cons (.free rfl) (.cons (.free rfl) .nil)), rowsZ_one rfl⟩, trivial⟩ trivial rfl rfl ?_
   exact ⟨(.free rfl), (.ptr rfl), (.ptr rfl), (.ptr rfl), (.free rfl), trivial⟩
  ·replace h := cond_f h b5
   refine s_fieldAddr rfl rfl fd32_4 rfl rfl rfl rfl ?_
   refine s_load rfl rfl rfl rfl ty3 rfl (.inr rfl) (by conv => lhs; whnf) rfl rfl rfl ?_
   refine m1 ?_
   refine s_of (st_leq rfl rfl rfl) rfl rfl rfl rfl ?_
   refine s_pickF rfl rfl (by conv => lhs; whnf) rfl rfl rfl ?_
   refine rt_nil ?_
   refine Exists.intro ⟨decide (p2.til ≤ p1), h⟩ ?_
   refine entX [((3, 0), ⟨43, 2, [[.sc (.int .i64 x1.cap), .ref (9, 1) 0 x1.l.length]], false, true⟩, some (3, 0)), ((9, 1), ⟨32, 6, List.map mEntryV x1.l, false, true⟩, some (9, 1)), ((5, 0), ⟨32, 6, [[.sc (.string p2.q.name), .sc (.int .i64 p2.q.ty), .sc (.int .i64 p2.kind), .lst 6 (List.map recV p2.l), .sc (.int .i64 p2.rank), .sc (.int .i64 p2.til)]], false, true⟩, some (5, 0)), ((6, 0), ⟨43, 2, [[.sc (.int .i64 0), .nils]], false, true⟩, some (6, 0))] [] ⟨⟨rfl, _, rfl, rfl, rfl, rfl, id, rowsCv_one (.cons (.free rfl) (.cons (.ref rfl) .nil)), rowsZ_one rfl⟩, ⟨rfl, _, rfl, rfl, rfl, rfl, id, rowsCv_eq rfl (allFree_map mEntryV_free), rowsZ_map mEntryV_len⟩, ⟨rfl, _, rfl, rfl, rfl, rfl, id, rowsCv_one (.cons (.free rfl) (.cons (.free rfl) (.cons (.free rfl) (.cons (.free rfl) (.cons (.free rfl) (.cons (.free rfl) .nil)))))), rowsZ_one rfl⟩, ⟨rfl, _, rfl, rfl, rfl, rfl, id, rowsCv_one (.cons (.free rfl) (.cons (.free rfl) .nil)), rowsZ_one rfl⟩, trivial⟩ trivial rfl rfl ?_
   exact ⟨(.free rfl), (.ptr rfl), (.ptr rfl), (.ptr rfl), (.free rfl), trivial⟩
 ·rintro ⟨j0_0, h⟩
  replace h : i_Keep_j0 p1 p2 x1 j0_0 = some r0 := h
  unfold i_Keep_j0 at h
  show Tri _ _ _ (inv_i_Keep_0 p1 p2 x1 j0_0)
  refine tri_cond rfl (fun c3 => ?_) (fun c3 => ?_)
  ·replace h := cond_t h c3
   refine tri_sr ?_
   refine s_loadR rfl rfl rfl rfl ty43 rfl rfl rfl ?_
   refine s_storeB rfl rfl rfl ty43 rfl rfl rfl rfl rfl ?_
   refine rt_nil ?_
   refine tri_ret ?_
   have e0 := (some1 h); subst e0
   exact endY (v' := .agg [.sc (.int .i64 x1.cap), .ref (2000, 1) 0 x1.l.length]) [((2000, 1), ⟨32, 6, List.map mEntryV x1.l, false, true⟩, some (9, 1))] [] (rvC (resCell rfl rfl ty43) rvN) ⟨⟨rfl, _, rfl, rfl, rfl, rfl, id, rowsCv_eq rfl (allFree_map mEntryV_free), rowsZ_map mEntryV_len⟩, trivial⟩ trivial rfl rfl (by kernel_rfl) (by simp only [V.mat, V.mat1, V.mat0, matL, matT, List.length_map] <;> rfl) (CvL.agg (.cons (.free rfl) (.cons (.ref rfl) .nil)))
  ·replace h := cond_f h c3
   refine tri_skip ?_
   refine tri_sr ?_
   refine s_loadR rfl rfl rfl rfl ty32 rfl rfl rfl ?_
   refine bnd1_elim h fun x4 q5 h => ?_
   refine s_callNF (kb := []) (ns := []) (v := .agg [.sc (.string x4.q.name), .sc (.int .i64 x4.q.ty), .sc (.int .i64 x4.kind), .ref (21, 3) 0 x4.l.length, .sc (.int .i64 x4.rank), .sc (.int .i64 x4.til)]) (D := [(21, 3)]) rfl rfl cl74 (wi_copyEntry (MEntry.mk (Quest.mk p2.q.name p2.q.ty) p2.kind p2.l p2.rank p2.til) x4 q5) rfl (.cons (relAgg rfl) .nil) trivial memNil .nil memNil rfl ⟨(allSc_map recV_sc), trivial⟩ memNil rfl (by simp only [V.mat, V.mat1, V.mat0, matL, matT, List.length_map] <;> rfl) rfl ⟨⟨rfl, rfl, _, rfl, rfl⟩, trivial⟩ (relAggL (.cons (.free rfl) (.cons (.free rfl) (.cons (.free rfl) (.cons (lendL rfl (.head _) rfl recV_free recV_len) (.cons (.free rfl) (.cons (.free rfl) .nil))))))) rfl rfl rfl ?_
   refine s_storeB rfl rfl rfl ty32 rfl rfl rfl rfl rfl ?_
   refine rt_nil ?_
   refine tri_sr ?_
   refine s_fieldAddr rfl rfl fd43_1 rfl rfl rfl rfl ?_
   refine s_load rfl rfl rfl rfl ty41 rfl (.inr rfl) (by conv => lhs; whnf) rfl rfl rfl ?_
   refine s_makeFunc (caps := [.ptr (5, 0) 0 0]) rfl rfl rfl rfl rfl ?_
   refine bnd1_elim h fun x6 q7 h => ?_
   refine s_callN (kb := [(9, 1), (5, 0)]) (ns := []) (v := .sc (.int .i64 x6)) rfl rfl cl75 (wslices_IndexFunc_Entry x1.l 76 ([.lptr 6 [[.sc (.string x4.q.name), .sc (.int .i64 x4.q.ty), .sc (.int .i64 x4.kind), .lst 6 (List.map recV x4.l), .sc (.int .i64 x4.rank), .sc (.int .i64 x4.til)]] 0 0]) rfl cl76 (fun a0 => i_Keep_1 a0 (MEntry.mk (Quest.mk x4.q.name x4.q.ty) x4.kind x4.l x4.rank x4.til)) (fun a0 v0 hv => wi_Keep_1 a0 (MEntry.mk (Quest.mk x4.q.name x4.q.ty) x4.kind x4.l x4.rank x4.til) v0 hv) x6 q7) rfl (.cons (lendL rfl (.head _) rfl mEntryV_free mEntryV_len) (.cons (relFnL rfl (.cons (relBoxL rfl (.tail _ (.head _)) (.cons (.free rfl) (.cons (.free rfl) (.cons (.free rfl) (.cons (.free rfl) (.cons (.free rfl) (.cons (.free rfl) .nil)))))) rfl rfl) .nil)) .nil)) trivial memNil .nil (fun _ _ => List.not_mem_nil) rfl trivial memNil rfl rfl rfl rfl rfl rfl ?_
   refine m2 ?_
   refine rt_nil ?_
   refine tri_seq ?_
   refine tri_sr ?_
   refine m1 ?_
   refine s_of (st_geq rfl rfl rfl) rfl rfl rfl rfl ?_
   refine rt_nil ?_
   refine tri_cond rfl (fun c8 => ?_) (fun c8 => ?_)
   ·replace h := cond_t h c8
    refine tri_seq ?_
    refine tri_cutI (ι := { p : Bool // i_Keep_j1 x1 x4 x6 p = some r0 }) (fun p => inv_i_Keep_1 x1 x4 x6 p.1) ?_ ?_
    ·skip
     refine tri_draw mixed ?_
     refine s_fieldAddr rfl rfl fd32_3 rfl rfl rfl rfl ?_
     refine s_load rfl rfl rfl rfl ty3 rfl (.inr rfl) (by conv => lhs; whnf) rfl rfl rfl ?_
     refine s_fieldAddr rfl rfl fd43_1 rfl rfl rfl rfl ?_
     refine s_load rfl rfl rfl rfl ty41 rfl (.inr rfl) (by conv => lhs; whnf) rfl rfl rfl ?_
     refine m1 ?_
     refine bnd1_elim h fun x9 q10 h => ?_
     have q10a := (idx_some q10).1; have q10b := (idx_some q10).2
     refine s_indexZ rfl rfl rfl rfl sl41 rfl q10a (get_lt q10b) rfl rfl rfl ?_
     refine s_fieldAddr rfl rfl fd32_3 rfl rfl rfl rfl ?_
     refine s_load rfl rfl rfl (rowG q10b) ty3 rfl (.inr rfl) (by conv => lhs; whnf) rfl rfl rfl ?_
     refine s_of (st_geq rfl rfl rfl) rfl rfl rfl rfl ?_
     refine m1 ?_
     refine s_split (t := 37) rfl (fun b11 => ?_) (fun b11 => ?_)
     ·replace h := cond_t h b11
      refine s_skip rfl rfl rfl ?_
      refine s_skip rfl rfl rfl ?_
      refine s_skip rfl rfl rfl ?_
      refine s_skip rfl rfl rfl ?_
      refine s_skip rfl rfl rfl ?_
      refine s_skip rfl rfl rfl ?_
      refine s_skip rfl rfl rfl ?_
      refine s_skip rfl rfl rfl ?_
      refine s_pickT rfl rfl (v := .sc (.bool true)) rfl rfl rfl rfl ?_
      refine rt_nil ⟨by kernel_rfl, ?_⟩
      refine Exists.intro ⟨true, h⟩ ?_
      refine entX [((3, 0), ⟨43, 2, [[.sc (.int .i64 x1.cap), .ref (9, 1) 0 x1.l.length]], false, true⟩, some (3, 0)), ((9, 1), ⟨32, 6, List.map mEntryV x1.l, false, true⟩, some (9, 1)), ((5, 0), ⟨32, 6, [[.sc (.string x4.q.name), .sc (.int .i64 x4.q.ty), .sc (.int .i64 x4.kind), .lst 6 (List.map recV x4.l), .sc (.int .i64 x4.rank), .sc (.int .i64 x4.til)]], false, true⟩, some (5, 0)), ((6, 0), ⟨43, 2, [[.sc (.int .i64 0), .nils]], false, true⟩, some (6, 0))] [] ⟨⟨rfl, _, rfl, rfl, rfl, rfl, id, rowsCv_one (.cons (.free rfl) (.cons (.ref rfl) .nil)), rowsZ_one rfl⟩, ⟨rfl, _, rfl, rfl, rfl, rfl, id, rowsCv_eq rfl (allFree_map mEntryV_free), rowsZ_map mEntryV_len⟩, ⟨rfl, _, rfl, rfl, rfl, rfl, id, rowsCv_one (.cons (.free rfl) (.cons (.free rfl) (.cons (.free rfl) (.cons (.free rfl) (.cons (.free rfl) (.cons (.free rfl) .nil)))))), rowsZ_one rfl⟩, ⟨rfl, _, rfl, rfl, rfl, rfl, id, rowsCv_one (.cons (.free rfl) (.cons (.free rfl) .nil)), rowsZ_one rfl⟩, trivial⟩ trivial rfl rfl ?_
      exact ⟨(.ptr rfl), (.ptr rfl), (.ptr rfl), (.free rfl), (.free rfl), trivial⟩
     ·replace h := cond_f h b11
      refine s_fieldAddr rfl rfl fd43_1 rfl rfl rfl rfl ?_
      refine s_load rfl rfl rfl rfl ty41 rfl (.inr rfl) (by conv => lhs; whnf) rfl rfl rfl ?_
      refine m1 ?_
      refine s_indexZ rfl rfl rfl rfl sl41 rfl q10a (get_lt q10b) rfl rfl rfl ?_
      refine s_fieldAddr rfl rfl fd32_4 rfl rfl rfl rfl ?_
      refine s_load rfl rfl rfl (rowG q10b) ty3 rfl (.inr rfl) (by conv => lhs; whnf) rfl rfl rfl ?_
      refine m1 ?_
      refine s_of (st_leq rfl rfl rfl) rfl rfl rfl rfl ?_
      refine s_pickF rfl rfl (by conv => lhs; whnf) rfl rfl rfl ?_
      refine rt_nil ⟨by kernel_rfl, ?_⟩
      refine Exists.intro ⟨decide (x9.til ≤ p1), h⟩ ?_
      refine entX [((3, 0), ⟨43, 2, [[.sc (.int .i64 x1.cap), .ref (9, 1) 0 x1.l.length]], false, true⟩, some (3, 0)), ((9, 1), ⟨32, 6, List.map mEntryV x1.l, false, true⟩, some (9, 1)), ((5, 0), ⟨32, 6, [[.sc (.string x4.q.name), .sc (.int .i64 x4.q.ty), .sc (.int .i64 x4.kind), .lst 6 (List.map recV x4.l), .sc (.int .i64 x4.rank), .sc (.int .i64 x4.til)]], false, true⟩, some (5, 0)), ((6, 0), ⟨43, 2, [[.sc (.int .i64 0), .nils]], false, true⟩, some (6, 0))] [] ⟨⟨rfl, _, rfl, rfl, rfl, rfl, id, rowsCv_one (.cons (.free rfl) (.cons (.ref rfl) .nil)), rowsZ_one rfl⟩, ⟨rfl, _, rfl, rfl, rfl, rfl, id, rowsCv_eq rfl (allFree_map mEntryV_free), rowsZ_map mEntryV_len⟩, ⟨rfl, _, rfl, rfl, rfl, rfl, id, rowsCv_one (.cons (.free rfl) (.cons (.free rfl) (.cons (.free rfl) (.cons (.free rfl) (.cons (.free rfl) (.cons (.free rfl) .nil)))))), rowsZ_one rfl⟩, ⟨rfl, _, rfl, rfl, rfl, rfl, id, rowsCv_one (.cons (.free rfl) (.cons (.free rfl) .nil)), rowsZ_one rfl⟩, trivial⟩ trivial rfl rfl ?_
      exact ⟨(.ptr rfl), (.ptr rfl), (.ptr rfl), (.free rfl), (.free rfl), trivial⟩
    ·rintro ⟨j1_0, h⟩
     replace h : i_Keep_j1 x1 x4 x6 j1_0 = some r0 := h
     unfold i_Keep_j1 at h
     show Tri _ _ _ (inv_i_Keep_1 x1 x4 x6 j1_0)
     refine tri_cond rfl (fun c9 => ?_) (fun c9 => ?_)
     ·replace h := cond_t h c9
      refine tri_region ?_
      refine s_fieldAddr rfl rfl fd43_1 rfl rfl rfl rfl ?_
      refine s_load rfl rfl rfl rfl ty41 rfl (.inr rfl) (by conv => lhs; whnf) rfl rfl rfl ?_
      refine m1 ?_
      refine s_loadR rfl rfl rfl rfl ty32 rfl rfl rfl ?_
      refine bnd1_elim h fun x10 q11 h => ?_
      have q11a := (idx_some q11).1; have q11b := (idx_some q11).2
      refine s_indexZ rfl rfl rfl rfl sl41 rfl q11a (get_lt q11b) rfl rfl rfl ?_
      refine s_storeL (x' := MEntry.mk (Quest.mk x4.q.name x4.q.ty) x4.kind x4.l x4.rank x4.til) rfl rfl rfl q11b ty32 rfl rfl rfl rfl rfl rfl ?_
      refine rt_nil ?_
      refine tri_sr ?_
      refine s_loadR rfl rfl rfl rfl ty43 rfl rfl rfl ?_
      refine s_storeB rfl rfl rfl ty43 rfl rfl rfl rfl rfl ?_
      refine rt_nil ?_
      refine tri_ret ?_
      have e0 := (some1 h); subst e0
      exact endY (v' := .agg [.sc (.int .i64 x1.cap), .ref (2000, 1) 0 ((x1.l.set x6.toNat (MEntry.mk (Quest.mk x4.q.name x4.q.ty) x4.kind x4.l x4.rank x4.til)).length)]) [((2000, 1), ⟨32, 6, List.map mEntryV (x1.l.set x6.toNat (MEntry.mk (Quest.mk x4.q.name x4.q.ty) x4.kind x4.l x4.rank x4.til)), false, true⟩, some (9, 1))] [] (rvC (resCell rfl rfl ty43) rvN) ⟨⟨rfl, _, rfl, rfl, rfl, rfl, id, rowsCv_eq rfl (allFree_map mEntryV_free), rowsZ_map mEntryV_len⟩, trivial⟩ trivial rfl rfl (by kernel_rfl) (by simp only [V.mat, V.mat1, V.mat0, matL, matT, List.length_map] <;> rfl) (CvL.agg (.cons (.free rfl) (.cons (cvRefLen rfl (by simp only [List.length_set])) .nil)))
     ·replace h := cond_f h c9
      refine tri_skip ?_
      refine tri_sr ?_
      refine s_loadR rfl rfl rfl rfl ty43 rfl rfl rfl ?_
      refine s_storeB rfl rfl rfl ty43 rfl rfl rfl rfl rfl ?_
      refine rt_nil ?_
      refine tri_ret ?_
      have e0 := (some1 h); subst e0
      exact endY (v' := .agg [.sc (.int .i64 x1.cap), .ref (2000, 1) 0 x1.l.length]) [((2000, 1), ⟨32, 6, List.map mEntryV x1.l, false, true⟩, some (9, 1))] [] (rvC (resCell rfl rfl ty43) rvN) ⟨⟨rfl, _, rfl, rfl, rfl, rfl, id, rowsCv_eq rfl (allFree_map mEntryV_free), rowsZ_map mEntryV_len⟩, trivial⟩ trivial rfl rfl (by kernel_rfl) (by simp only [V.mat, V.mat1, V.mat0, matL, matT, List.length_map] <;> rfl) (CvL.agg (.cons (.free rfl) (.cons (.ref rfl) .nil)))
   ·replace h := cond_f h c8
    refine tri_skip ?_
    refine tri_cutI (ι := { p : (List MEntry) // i_Keep_j2 x1 x4 p = some r0 }) (fun p => inv_i_Keep_2 x1 x4 p.1) ?_ ?_
    ·skip
     refine tri_sr ?_
     refine s_fieldAddr rfl rfl fd43_1 rfl rfl rfl rfl ?_
     refine s_load rfl rfl rfl rfl ty41 rfl (.inr rfl) (by conv => lhs; whnf) rfl rfl rfl ?_
     refine s_len (m := x1.l.length) rfl sl41 rfl rfl rfl rfl ?_
     refine s_fieldAddr rfl rfl fd43_0 rfl rfl rfl rfl ?_
     refine s_load rfl rfl rfl rfl ty3 rfl (.inr rfl) (by conv => lhs; whnf) rfl rfl rfl ?_
     refine s_of (st_geq rfl rfl rfl) rfl rfl rfl rfl ?_
     refine rt_nil ?_
     refine tri_cond rfl (fun c12 => ?_) (fun c12 => ?_)
     ·replace h := cond_t h c12
      refine tri_region ?_
      refine s_fieldAddr rfl rfl fd43_1 rfl rfl rfl rfl ?_
      refine s_load rfl rfl rfl rfl ty41 rfl (.inr rfl) (by conv => lhs; whnf) rfl rfl rfl ?_
      refine bnd2_elim h fun x13 x14 q15 h => ?_
      refine s_callP (kb := []) (ns := [(9, 1)]) (y := .ref (9, 1) 0 x14.length) rfl rfl cl77 (wi_dropFirst_Entry x1.l 78 [] rfl cl78 (fun a0 => i_Keep_2 a0) (fun a0 v0 hv => wi_Keep_2 a0 v0 hv) x13 x14 q15) rfl (.cons (.refOwn rfl) (.cons relFn0 .nil)) ⟨⟨_, rfl, rfl⟩, trivial⟩ (memCons (freeZ_map mEntryV_free mEntryV_len) memNil) (List.nodup_cons.2 ⟨List.not_mem_nil, .nil⟩) memNil trivial (.inn rfl) (memCons (freeZ_map mEntryV_free mEntryV_len) memNil) rfl rfl rfl rfl ?_
      refine s_fieldAddr rfl rfl fd43_1 rfl rfl rfl rfl ?_
      refine s_store (rows' := [[.sc (.int .i64 x1.cap), .ref (9, 1) 0 x14.length]]) rfl rfl rfl rfl ty41 rfl rfl rfl rfl rfl rfl ?_
      refine rt_nil ?_
      refine Exists.intro ⟨x14, h⟩ ?_
      refine entX [((3, 0), ⟨43, 2, [[.sc (.int .i64 x1.cap), .ref (9, 1) 0 x14.length]], false, true⟩, some (3, 0)), ((9, 1), ⟨32, 6, List.map mEntryV x14, false, true⟩, some (9, 1)), ((5, 0), ⟨32, 6, [[.sc (.string x4.q.name), .sc (.int .i64 x4.q.ty), .sc (.int .i64 x4.kind), .lst 6 (List.map recV x4.l), .sc (.int .i64 x4.rank), .sc (.int .i64 x4.til)]], false, true⟩, some (5, 0)), ((6, 0), ⟨43, 2, [[.sc (.int .i64 0), .nils]], false, true⟩, some (6, 0))] [] ⟨⟨rfl, _, rfl, rfl, rfl, rfl, id, rowsCv_one (.cons (.free rfl) (.cons (.ref rfl) .nil)), rowsZ_one rfl⟩, ⟨rfl, _, rfl, rfl, rfl, rfl, id, rowsCv_eq rfl (allFree_map mEntryV_free), rowsZ_map mEntryV_len⟩, ⟨rfl, _, rfl, rfl, rfl, rfl, id, rowsCv_one (.cons (.free rfl) (.cons (.free rfl) (.cons (.free rfl) (.cons (.free rfl) (.cons (.free rfl) (.cons (.free rfl) .nil)))))), rowsZ_one rfl⟩, ⟨rfl, _, rfl, rfl, rfl, rfl, id, rowsCv_one (.cons (.free rfl) (.cons (.free rfl) .nil)), rowsZ_one rfl⟩, trivial⟩ trivial rfl rfl ?_
      exact ⟨(.ptr rfl), (.ptr rfl), (.ptr rfl), trivial⟩
     ·replace h := cond_f h c12
      refine tri_skip ?_
      refine Exists.intro ⟨x1.l, h⟩ ?_
      refine entX [((3, 0), ⟨43, 2, [[.sc (.int .i64 x1.cap), .ref (9, 1) 0 x1.l.length]], false, true⟩, some (3, 0)), ((9, 1), ⟨32, 6, List.map mEntryV x1.l, false, true⟩, some (9, 1)), ((5, 0), ⟨32, 6, [[.sc (.string x4.q.name), .sc (.int .i64 x4.q.ty), .sc (.int .i64 x4.kind), .lst 6 (List.map recV x4.l), .sc (.int .i64 x4.rank), .sc (.int .i64 x4.til)]], false, true⟩, some (5, 0)), ((6, 0), ⟨43, 2, [[.sc (.int .i64 0), .nils]], false, true⟩, some (6, 0))] [] ⟨⟨rfl, _, rfl, rfl, rfl, rfl, id, rowsCv_one (.cons (.free rfl) (.cons (.ref rfl) .nil)), rowsZ_one rfl⟩, ⟨rfl, _, rfl, rfl, rfl, rfl, id, rowsCv_eq rfl (allFree_map mEntryV_free), rowsZ_map mEntryV_len⟩, ⟨rfl, _, rfl, rfl, rfl, rfl, id, rowsCv_one (.cons (.free rfl) (.cons (.free rfl) (.cons (.free rfl) (.cons (.free rfl) (.cons (.free rfl) (.cons (.free rfl) .nil)))))), rowsZ_one rfl⟩, ⟨rfl, _, rfl, rfl, rfl, rfl, id, rowsCv_one (.cons (.free rfl) (.cons (.free rfl) .nil)), rowsZ_one rfl⟩, trivial⟩ trivial rfl rfl ?_
      exact ⟨(.ptr rfl), (.ptr rfl), (.ptr rfl), trivial⟩
    ·rintro ⟨j2_0, h⟩
     replace h : i_Keep_j2 x1 x4 j2_0 = some r0 := h
     unfold i_Keep_j2 at h
     show Tri _ _ _ (inv_i_Keep_2 x1 x4 j2_0)
     refine tri_sr ?_
     refine s_fieldAddr rfl rfl fd43_1 rfl rfl rfl rfl ?_
     refine s_load rfl rfl rfl rfl ty41 rfl (.inr rfl) (by conv => lhs; whnf) rfl rfl rfl ?_
     refine s_loadR rfl rfl rfl rfl ty32 rfl rfl rfl ?_
     refine s_buildSlice (rows' := List.map mEntryV [MEntry.mk (Quest.mk x4.q.name x4.q.ty) x4.kind x4.l x4.rank x4.til]) rfl rfl rfl sl41 zc32 rfl rfl rfl rfl rfl rfl rfl rfl rfl ?_
     refine grd_elim h fun g12 h => ?_
     refine s_appL rfl rfl rfl sl41 zc32 rfl rfl rfl rfl rfl rfl (src_refL rfl rfl) g12 rfl rfl ?_
     refine s_fieldAddr rfl rfl fd43_1 rfl rfl rfl rfl ?_
     refine s_store (rows' := [[.sc (.int .i64 x1.cap), .ref (67, 0) 0 ((j2_0 ++ [MEntry.mk (Quest.mk x4.q.name x4.q.ty) x4.kind x4.l x4.rank x4.til]).length)]]) rfl rfl rfl rfl ty41 rfl rfl rfl rfl rfl rfl ?_
     refine rt_nil ?_
     refine tri_sr ?_
     refine s_loadR rfl rfl rfl rfl ty43 rfl rfl rfl ?_
     refine s_storeB rfl rfl rfl ty43 rfl rfl rfl rfl rfl ?_
     refine rt_nil ?_
     refine tri_ret ?_
     have e0 := (some1 h); subst e0
     exact endY (v' := .agg [.sc (.int .i64 x1.cap), .ref (2000, 1) 0 ((j2_0 ++ [MEntry.mk (Quest.mk x4.q.name x4.q.ty) x4.kind x4.l x4.rank x4.til]).length)]) [((2000, 1), ⟨32, 6, List.map mEntryV (j2_0 ++ [MEntry.mk (Quest.mk x4.q.name x4.q.ty) x4.kind x4.l x4.rank x4.til]), false, true⟩, some (67, 0))] [] (rvC (resCell rfl rfl ty43) rvN) ⟨⟨rfl, _, rfl, rfl, rfl, rfl, id, rowsCv_eq rfl (allFree_map mEntryV_free), rowsZ_map mEntryV_len⟩, trivial⟩ trivial rfl rfl (by kernel_rfl) (by simp only [V.mat, V.mat1, V.mat0, matL, matT, List.length_map] <;> rfl) (CvL.agg (.cons (.free rfl) (.cons (by show Cv _ _ _ _ (.ref (67, 0) 0 ((j2_0 ++ [MEntry.mk (Quest.mk x4.q.name x4.q.ty) x4.kind x4.l x4.rank x4.til]).length)) (.ref (2000, 1) 0 ((j2_0 ++ [MEntry.mk (Quest.mk x4.q.name x4.q.ty) x4.kind x4.l x4.rank x4.til]).length)); exact .ref rfl) .nil)))
def invR_i_Keep_1 (x1 : MCache) (x4 : MEntry) (x6 : Int) (j1_0 : Bool) : St := mkT 70 [(3, .ptr (3, 0) 0 0), (5, .ptr (5, 0) 0 0), (6, .ptr (6, 0) 0 0), (7, .sc (.int .i64 x6)), (46, .sc (.bool j1_0))] ([((3, 0), some ⟨43, 2, [[.sc (.int .i64 x1.cap), .ref (9, 1) 0 x1.l.length]], false, true⟩), ((9, 1), some ⟨32, 6, nr 9 mEntryN 10000 x1.l, false, true⟩), ((5, 0), some ⟨32, 6, [[.sc (.string x4.q.name), .sc (.int .i64 x4.q.ty), .sc (.int .i64 x4.kind), .ref (21, 3) 0 x4.l.length, .sc (.int .i64 x4.rank), .sc (.int .i64 x4.til)]], false, true⟩), ((6, 0), some ⟨43, 2, [[.sc (.int .i64 0), .nils]], false, true⟩), ((21, 3), some ⟨60, 6, List.map recV x4.l, false, true⟩)] ++ (fam 9 10000 (List.map mEntryG x1.l) ++ []))
def invR_i_Keep_2 (x1 : MCache) (x4 : MEntry) (j2_0 : List (Fin x1.l.length)) : St := mkT 70 [(3, .ptr (3, 0) 0 0), (5, .ptr (5, 0) 0 0), (6, .ptr (6, 0) 0 0)] ([((3, 0), some ⟨43, 2, [[.sc (.int .i64 x1.cap), .ref (9, 1) 0 j2_0.length]], false, true⟩), ((9, 1), some ⟨32, 6, List.map (fI mEntryN 9 10000 x1.l) j2_0, false, true⟩), ((5, 0), some ⟨32, 6, [[.sc (.string x4.q.name), .sc (.int .i64 x4.q.ty), .sc (.int .i64 x4.kind), .ref (21, 3) 0 x4.l.length, .sc (.int .i64 x4.rank), .sc (.int .i64 x4.til)]], false, true⟩), ((6, 0), some ⟨43, 2, [[.sc (.int .i64 0), .nils]], false, true⟩), ((21, 3), some ⟨60, 6, List.map recV x4.l, false, true⟩)] ++ (fam 9 10000 (List.map mEntryG x1.l) ++ []))
def invR_i_Keep_0 (p1 : Int) (p2 : MEntry) (x1 : MCache) (j0_0 : Bool) : St := mkT 70 [(1, .sc (.int .i64 p1)), (3, .ptr (3, 0) 0 0), (5, .ptr (5, 0) 0 0), (6, .ptr (6, 0) 0 0), (18, .sc (.bool j0_0))] ([((3, 0), some ⟨43, 2, [[.sc (.int .i64 x1.cap), .ref (9, 1) 0 x1.l.length]], false, true⟩), ((9, 1), some ⟨32, 6, nr 9 mEntryN 10000 x1.l, false, true⟩), ((5, 0), some ⟨32, 6, [[.sc (.string p2.q.name), .sc (.int .i64 p2.q.ty), .sc (.int .i64 p2.kind), .lst 6 (List.map recV p2.l), .sc (.int .i64 p2.rank), .sc (.int .i64 p2.til)]], false, true⟩), ((6, 0), some ⟨43, 2, [[.sc (.int .i64 0), .nils]], false, true⟩)] ++ (fam 9 10000 (List.map mEntryG x1.l) ++ []))
set_option maxRecDepth 4000 in
set_option maxHeartbeats 800000 in
theorem wRi_Keep (p0 : MCache) (p1 : Int) (p2 : MEntry) (r0 : MCache) (h : i_Keep p0 p1 p2 = some r0) : RunsG Tryd.prog 33 [.agg (mCacheV p0), .sc (.int .i64 p1), .agg (mEntryV p2)] [] (.agg [.sc (.int .i64 r0.cap), .ref (2000, 1) 0 r0.l.length]) ([(1, ⟨32, 6, nr 2000 mEntryN 10000 r0.l, false, true⟩)] ++ famO 10000 (List.map mEntryG r0.l)) [] := by
 unfold i_Keep at h
 refine runsG [.cell 6 43] Tryd.func33 rfl rfl rfl rfl ?_
 rw [Tryd.ntmps33]
 refine tri_sr ?_
 refine s_box rfl rfl rfl rfl rfl rfl rfl ?_
 refine s_box rfl rfl rfl rfl rfl rfl rfl ?_
 refine s_alloc rfl rfl rfl zc43 rfl rfl rfl rfl rfl ?_
 refine rt_nil ?_
 refine tri_sr ?_
 refine s_loadR rfl rfl rfl rfl ty43 rfl rfl rfl ?_
 refine bnd1_elim h fun x1 q2 h => ?_
 refine s_callRt (kb := []) (os' := [(1, ⟨32, 6, nr 9 mEntryN 10000 x1.l, false, true⟩)]) (y := .agg [.sc (.int .i64 x1.cap), .ref (9, 1) 0 x1.l.length]) rfl rfl cl62 (wRi_copyCache (MCache.mk p0.cap p0.l) x1 q2) rfl (.cons (relAgg rfl) .nil) (.cons (outRows mEntryN_z (fun i x hx => (.cons retSc (.cons retSc (.cons retSc (.cons (.own (owns_at (by rw [List.length_map]; exact (List.getElem?_eq_some_iff.1 hx).1))) (.cons retSc (.cons retSc .nil)))))))) id .nil) (fun x => allSc_map recV_sc) mEntryG_z (RetL.agg (.cons retSc (.cons (.own rfl) .nil))) (fun q E h => by simp only [List.mem_cons, List.not_mem_nil, or_false, Prod.mk.injEq] at h; rcases h with ⟨rfl, -⟩ <;> exact rfl) (fun i => rfl) rfl rfl rfl ?_
 refine s_storeB rfl rfl rfl ty43 rfl rfl rfl rfl rfl ?_
 refine rt_nil ?_
 refine tri_seq ?_
 refine tri_cutI (ι := { p : Bool // i_Keep_j0 p1 p2 x1 p = some r0 }) (fun p => invR_i_Keep_0 p1 p2 x1 p.1) ?_ ?_
 ·skip
  refine tri_region ?_
  refine s_loadR rfl rfl rfl rfl ty32 rfl rfl rfl ?_
  refine bnd1_elim h fun x3 q4 h => ?_
  refine s_callN (kb := []) (ns := []) (v := .sc (.bool x3)) rfl rfl cl12 (wi_EntryOk (MEntry.mk (Quest.mk p2.q.name p2.q.ty) p2.kind p2.l p2.rank p2.til) x3 q4) rfl (.cons (relAgg rfl) .nil) trivial memNil .nil memNil rfl trivial memNil rfl rfl rfl rfl rfl rfl ?_
  refine s_of (st_not rfl rfl) rfl rfl rfl rfl ?_
  refine m1 ?_
  refine s_split (t := 13) rfl (fun b5 => ?_) (fun b5 => ?_)
  ·replace h := cond_t h b5
   refine s_skip rfl rfl rfl ?_
   refine s_skip rfl rfl rfl ?_
   refine s_skip rfl rfl rfl ?_
   refine s_skip rfl rfl rfl ?_
   refine s_pickT rfl rfl (v := .sc (.bool true)) rfl rfl rfl rfl ?_
   refine rt_nil ?_
   refine Exists.intro ⟨true, h⟩ ?_
   refine entK (items := [((3, 0), ⟨43, 2, [[.sc (.int .i64 x1.cap), .ref (9, 1) 0 x1.l.length]], false, true⟩, some (3, 0)), ((9, 1), ⟨32, 6, nr 9 mEntryN 10000 x1.l, false, true⟩, some (9, 1)), ((5, 0), ⟨32, 6, [[.sc (.string p2.q.name), .sc (.int .i64 p2.q.ty), .sc (.int .i64 p2.kind), .lst 6 (List.map recV p2.l), .sc (.int .i64 p2.rank), .sc (.int .i64 p2.til)]], false, true⟩, some (5, 0)), ((6, 0), ⟨43, 2, [[.sc (.int .i64 0), .nils]], false, true⟩, some (6, 0))]) (D := []) (a := 9) (b := 10000) (l := x1.l) (g := mEntryG) ⟨⟨rfl, _, rfl, rfl, rfl, rfl, id, rowsCv_one (.cons (.free rfl) (.cons (.ref rfl) .nil)), rowsZ_one rfl⟩, ⟨rfl, _, rfl, rfl, rfl, rfl, id, rowsCv_fam (fun x h => mEntryN_cv x h), nr_rowsZ mEntryN_z⟩, ⟨rfl, _, rfl, rfl, rfl, rfl, id, rowsCv_one (.cons (.free rfl) (.cons (.free rfl) (.cons (.free rfl) (.cons (.free rfl) (.cons (.free rfl) (.cons (.free rfl) .nil)))))), rowsZ_one rfl⟩, ⟨rfl, _, rfl, rfl, rfl, rfl, id, rowsCv_one (.cons (.free rfl) (.cons (.free rfl) .nil)), rowsZ_one rfl⟩, trivial⟩ trivial rfl rfl rfl rfl (fun j y hy => (by repeat (first | exact fam_lk (by rw [List.getElem?_map, hy]; rfl) | refine lkTo rfl ?_))) mEntryG_f mEntryG_z (fun j => (by repeat (first | exact rfl | exact famNo rfl rfl | refine lkNo rfl ?_))) ?_
   exact ⟨(.free rfl), (.ptr rfl), (.ptr rfl), (.ptr rfl), (.free rfl), trivial⟩
  ·replace h := cond_f h b5
   refine s_fieldAddr rfl rfl fd32_4 rfl rfl rfl rfl ?_
   refine s_load rfl rfl rfl rfl ty3 rfl (.inr rfl) (by conv => lhs; whnf) rfl rfl rfl ?_
   refine m1 ?_
   refine s_of (st_leq rfl rfl rfl) rfl rfl rfl rfl ?_
   refine s_pickF rfl rfl (by conv => lhs; whnf) rfl rfl rfl ?_
   refine rt_nil ?_
   refine Exists.intro ⟨decide (p2.til ≤ p1), h⟩ ?_
   refine entK (items := [((3, 0), ⟨43, 2, [[.sc (.int .i64 x1.cap), .ref (9, 1) 0 x1.l.length]], false, true⟩, some (3, 0)), ((9, 1), ⟨32, 6, nr 9 mEntryN 10000 x1.l, false, true⟩, some (9, 1)), ((5, 0), ⟨32, 6, [[.sc (.string p2.q.name), .sc (.int .i64 p2.q.ty), .sc (.int .i64 p2.kind), .lst 6 (List.map recV p2.l), .sc (.int .i64 p2.rank), .sc (.int .i64 p2.til)]], false, true⟩, some (5, 0)), ((6, 0), ⟨43, 2, [[.sc (.int .i64 0), .nils]], false, true⟩, some (6, 0))]) (D := []) (a := 9) (b := 10000) (l := x1.l) (g := mEntryG) ⟨⟨rfl, _, rfl, rfl, rfl, rfl, id, rowsCv_one (.cons (.free rfl) (.cons (.ref rfl) .nil)), rowsZ_one rfl⟩, ⟨rfl, _, rfl, rfl, rfl, rfl, id, rowsCv_fam (fun x h => mEntryN_cv x h), nr_rowsZ mEntryN_z⟩, ⟨rfl, _, rfl, rfl, rfl, rfl, id, rowsCv_one (.cons (.free rfl) (.cons (.free rfl) (.cons (.free rfl) (.cons (.free rfl) (.cons (.free rfl) (.cons (.free rfl) .nil)))))), rowsZ_one rfl⟩, ⟨rfl, _, rfl, rfl, rfl, rfl, id, rowsCv_one (.cons (.free rfl) (.cons (.free rfl) .nil)), rowsZ_one rfl⟩, trivial⟩ trivial rfl rfl rfl rfl (fun j y hy => (by repeat (first | exact fam_lk (by rw [List.getElem?_map, hy]; rfl) | refine lkTo rfl ?_))) mEntryG_f mEntryG_z (fun j => (by repeat (first | exact rfl | exact famNo rfl rfl | refine lkNo rfl ?_))) ?_
   exact ⟨(.free rfl), (.ptr rfl), (.ptr rfl), (.ptr rfl), (.free rfl), trivial⟩
 ·rintro ⟨j0_0, h⟩
  replace h : i_Keep_j0 p1 p2 x1 j0_0 = some r0 := h
  unfold i_Keep_j0 at h
  show Tri _ _ _ (invR_i_Keep_0 p1 p2 x1 j0_0)
  refine tri_cond rfl (fun c3 => ?_) (fun c3 => ?_)
  ·replace h := cond_t h c3
   refine tri_sr ?_
   refine s_loadR rfl rfl rfl rfl ty43 rfl rfl rfl ?_
   refine s_storeB rfl rfl rfl ty43 rfl rfl rfl rfl rfl ?_
   refine rt_nil ?_
   refine tri_ret ?_
   have e0 := (some1 h); subst e0
   exact nest_endQ (g := mEntryG) (l := x1.l) [((2000, 1), ⟨32, 6, nr 2000 mEntryN 10000 x1.l, false, true⟩, some (9, 1))] [(1, ⟨32, 6, nr 2000 mEntryN 10000 x1.l, false, true⟩)] (nmP 9 10000 x1.l) nmP_snd (rvC (resCell rfl rfl ty43) rvN) ⟨⟨rfl, _, rfl, rfl, rfl, rfl, id, rowsCv_q nmP_snd nmP_rows (fun x h => mEntryN_cv x h), nr_rowsZ mEntryN_z⟩, trivial⟩ rfl (fun p hp => nmOk_fam (fun j y hy => (by repeat (first | exact fam_lk (by rw [List.getElem?_map, hy]; rfl) | refine lkTo rfl ?_))) rfl rfl (nmP_mem hp)) (by rw [nmP_fst]; exact famN_nodup _ _ _) (fun _ => rfl) rfl mEntryG_f mEntryG_z (fun j => (by repeat (first | exact rfl | exact famNo rfl rfl | refine lkNo rfl ?_))) rfl (CvL.agg (.cons (.free rfl) (.cons (.ref rfl) .nil)))
  ·replace h := cond_f h c3
   refine tri_skip ?_
   refine tri_sr ?_
   refine s_loadR rfl rfl rfl rfl ty32 rfl rfl rfl ?_
   refine bnd1_elim h fun x4 q5 h => ?_
   refine s_callN (kb := []) (ns := []) (v := .agg [.sc (.string x4.q.name), .sc (.int .i64 x4.q.ty), .sc (.int .i64 x4.kind), .ref (21, 3) 0 x4.l.length, .sc (.int .i64 x4.rank), .sc (.int .i64 x4.til)]) rfl rfl cl74 (wi_copyEntry (MEntry.mk (Quest.mk p2.q.name p2.q.ty) p2.kind p2.l p2.rank p2.til) x4 q5) rfl (.cons (relAgg rfl) .nil) trivial memNil .nil memNil rfl ⟨(allSc_map recV_sc), trivial⟩ memNil (habC (by repeat (first | exact rfl | exact famNo rfl rfl | refine lkNo rfl ?_)) habN) (by simp only [V.mat, V.mat1, V.mat0, matL, matT, List.length_map] <;> rfl) rfl rfl rfl rfl ?_
   refine s_storeB rfl rfl rfl ty32 rfl rfl rfl rfl rfl ?_
   refine rt_nil ?_
   refine tri_sr ?_
   refine s_fieldAddr rfl rfl fd43_1 rfl rfl rfl rfl ?_
   refine s_load rfl rfl rfl rfl ty41 rfl (.inr rfl) (by conv => lhs; whnf) rfl rfl rfl ?_
   refine s_makeFunc (caps := [.ptr (5, 0) 0 0]) rfl rfl rfl rfl rfl ?_
   refine bnd1_elim h fun x6 q7 h => ?_
   refine s_callN (kb := [(9, 1), (5, 0), (21, 3)] ++ famN 9 10000 x1.l.length) (ns := []) (v := .sc (.int .i64 x6)) rfl rfl cl75 (wslices_IndexFunc_Entry x1.l 76 ([.lptr 6 [[.sc (.string x4.q.name), .sc (.int .i64 x4.q.ty), .sc (.int .i64 x4.kind), .lst 6 (List.map recV x4.l), .sc (.int .i64 x4.rank), .sc (.int .i64 x4.til)]] 0 0]) rfl cl76 (fun a0 => i_Keep_1 a0 (MEntry.mk (Quest.mk x4.q.name x4.q.ty) x4.kind x4.l x4.rank x4.til)) (fun a0 v0 hv => wi_Keep_1 a0 (MEntry.mk (Quest.mk x4.q.name x4.q.ty) x4.kind x4.l x4.rank x4.til) v0 hv) x6 q7) rfl (.cons (lendN (a := 9) (b := 10000) (f := mEntryN) (g := mEntryG) rfl (List.mem_append_left _ (.head _)) rfl (fun i x hx => ⟨List.mem_append_right _ (famN_iff.2 ⟨i, (List.getElem?_eq_some_iff.1 hx).1, rfl⟩), (by repeat (first | exact fam_lk (by rw [List.getElem?_map, hx]; rfl) | refine lkTo rfl ?_))⟩) (fun m x hm hl => (.cons (.free rfl) (.cons (.free rfl) (.cons (.free rfl) (.cons (lendL hl hm rfl recV_free recV_len) (.cons (.free rfl) (.cons (.free rfl) .nil))))))) mEntryV_free mEntryV_len) (.cons (relFnL rfl (.cons (relBoxL rfl (List.mem_append_left _ (.tail _ (.head _))) (.cons (.free rfl) (.cons (.free rfl) (.cons (.free rfl) (.cons (lendL rfl (List.mem_append_left _ (.tail _ (.tail _ (.head _)))) rfl recV_free recV_len) (.cons (.free rfl) (.cons (.free rfl) .nil)))))) rfl rfl) .nil)) .nil)) trivial memNil .nil (fun _ _ => List.not_mem_nil) rfl trivial memNil rfl rfl rfl rfl rfl rfl ?_
   refine m2 ?_
   refine rt_nil ?_
   refine tri_seq ?_
   refine tri_sr ?_
   refine m1 ?_
   refine s_of (st_geq rfl rfl rfl) rfl rfl rfl rfl ?_
   refine rt_nil ?_
   refine tri_cond rfl (fun c8 => ?_) (fun c8 => ?_)
   ·replace h := cond_t h c8
    refine tri_seq ?_
    refine tri_cutI (ι := { p : Bool // i_Keep_j1 x1 x4 x6 p = some r0 }) (fun p => invR_i_Keep_1 x1 x4 x6 p.1) ?_ ?_
    ·skip
     refine tri_draw mixed ?_
     refine s_fieldAddr rfl rfl fd32_3 rfl rfl rfl rfl ?_
     refine s_load rfl rfl rfl rfl ty3 rfl (.inr rfl) (by conv => lhs; whnf) rfl rfl rfl ?_
     refine s_fieldAddr rfl rfl fd43_1 rfl rfl rfl rfl ?_
     refine s_load rfl rfl rfl rfl ty41 rfl (.inr rfl) (by conv => lhs; whnf) rfl rfl rfl ?_
     refine m1 ?_
     refine bnd1_elim h fun x9 q10 h => ?_
     have q10a := (idx_some q10).1; have q10b := (idx_some q10).2
     refine s_indexZ rfl rfl rfl rfl sl41 rfl q10a (get_lt q10b) rfl rfl rfl ?_
     refine s_fieldAddr rfl rfl fd32_3 rfl rfl rfl rfl ?_
     refine s_load rfl rfl rfl (nr_get q10b) ty3 rfl (.inr rfl) (by conv => lhs; whnf) rfl rfl rfl ?_
     refine s_of (st_geq rfl rfl rfl) rfl rfl rfl rfl ?_
     refine m1 ?_
     refine s_split (t := 37) rfl (fun b11 => ?_) (fun b11 => ?_)
     ·replace h := cond_t h b11
      refine s_skip rfl rfl rfl ?_
      refine s_skip rfl rfl rfl ?_
      refine s_skip rfl rfl rfl ?_
      refine s_skip rfl rfl rfl ?_
      refine s_skip rfl rfl rfl ?_
      refine s_skip rfl rfl rfl ?_
      refine s_skip rfl rfl rfl ?_
      refine s_skip rfl rfl rfl ?_
      refine s_pickT rfl rfl (v := .sc (.bool true)) rfl rfl rfl rfl ?_
      refine rt_nil ⟨by kernel_rfl, ?_⟩
      refine Exists.intro ⟨true, h⟩ ?_
      refine entK (items := [((3, 0), ⟨43, 2, [[.sc (.int .i64 x1.cap), .ref (9, 1) 0 x1.l.length]], false, true⟩, some (3, 0)), ((9, 1), ⟨32, 6, nr 9 mEntryN 10000 x1.l, false, true⟩, some (9, 1)), ((5, 0), ⟨32, 6, [[.sc (.string x4.q.name), .sc (.int .i64 x4.q.ty), .sc (.int .i64 x4.kind), .ref (21, 3) 0 x4.l.length, .sc (.int .i64 x4.rank), .sc (.int .i64 x4.til)]], false, true⟩, some (5, 0)), ((6, 0), ⟨43, 2, [[.sc (.int .i64 0), .nils]], false, true⟩, some (6, 0)), ((21, 3), ⟨60, 6, List.map recV x4.l, false, true⟩, some (21, 3))]) (D := []) (a := 9) (b := 10000) (l := x1.l) (g := mEntryG) ⟨⟨rfl, _, rfl, rfl, rfl, rfl, id, rowsCv_one (.cons (.free rfl) (.cons (.ref rfl) .nil)), rowsZ_one rfl⟩, ⟨rfl, _, rfl, rfl, rfl, rfl, id, rowsCv_fam (fun x h => mEntryN_cv x h), nr_rowsZ mEntryN_z⟩, ⟨rfl, _, rfl, rfl, rfl, rfl, id, rowsCv_one (.cons (.free rfl) (.cons (.free rfl) (.cons (.free rfl) (.cons (.ref rfl) (.cons (.free rfl) (.cons (.free rfl) .nil)))))), rowsZ_one rfl⟩, ⟨rfl, _, rfl, rfl, rfl, rfl, id, rowsCv_one (.cons (.free rfl) (.cons (.free rfl) .nil)), rowsZ_one rfl⟩, ⟨rfl, _, rfl, rfl, rfl, rfl, id, rowsCv_eq rfl (allFree_map recV_free), rowsZ_map recV_len⟩, trivial⟩ trivial rfl rfl rfl rfl (fun j y hy => (by repeat (first | exact fam_lk (by rw [List.getElem?_map, hy]; rfl) | refine lkTo rfl ?_))) mEntryG_f mEntryG_z (fun j => (by repeat (first | exact rfl | exact famNo rfl rfl | refine lkNo rfl ?_))) ?_
      exact ⟨(.ptr rfl), (.ptr rfl), (.ptr rfl), (.free rfl), (.free rfl), trivial⟩
     ·replace h := cond_f h b11
      refine s_fieldAddr rfl rfl fd43_1 rfl rfl rfl rfl ?_
      refine s_load rfl rfl rfl rfl ty41 rfl (.inr rfl) (by conv => lhs; whnf) rfl rfl rfl ?_
      refine m1 ?_
      refine s_indexZ rfl rfl rfl rfl sl41 rfl q10a (get_lt q10b) rfl rfl rfl ?_
      refine s_fieldAddr rfl rfl fd32_4 rfl rfl rfl rfl ?_
      refine s_load rfl rfl rfl (nr_get q10b) ty3 rfl (.inr rfl) (by conv => lhs; whnf) rfl rfl rfl ?_
      refine m1 ?_
      refine s_of (st_leq rfl rfl rfl) rfl rfl rfl rfl ?_
      refine s_pickF rfl rfl (by conv => lhs; whnf) rfl rfl rfl ?_
      refine rt_nil ⟨by kernel_rfl, ?_⟩
      refine Exists.intro ⟨decide (x9.til ≤ p1), h⟩ ?_
      refine entK (items := [((3, 0), ⟨43, 2, [[.sc (.int .i64 x1.cap), .ref (9, 1) 0 x1.l.length]], false, true⟩, some (3, 0)), ((9, 1), ⟨32, 6, nr 9 mEntryN 10000 x1.l, false, true⟩, some (9, 1)), ((5, 0), ⟨32, 6, [[.sc (.string x4.q.name), .sc (.int .i64 x4.q.ty), .sc (.int .i64 x4.kind), .ref (21, 3) 0 x4.l.length, .sc (.int .i64 x4.rank), .sc (.int .i64 x4.til)]], false, true⟩, some (5, 0)), ((6, 0), ⟨43, 2, [[.sc (.int .i64 0), .nils]], false, true⟩, some (6, 0)), ((21, 3), ⟨60, 6, List.map recV x4.l, false, true⟩, some (21, 3))]) (D := []) (a := 9) (b := 10000) (l := x1.l) (g := mEntryG) ⟨⟨rfl, _, rfl, rfl, rfl, rfl, id, rowsCv_one (.cons (.free rfl) (.cons (.ref rfl) .nil)), rowsZ_one rfl⟩, ⟨rfl, _, rfl, rfl, rfl, rfl, id, rowsCv_fam (fun x h => mEntryN_cv x h), nr_rowsZ mEntryN_z⟩, ⟨rfl, _, rfl, rfl, rfl, rfl, id, rowsCv_one (.cons (.free rfl) (.cons (.free rfl) (.cons (.free rfl) (.cons (.ref rfl) (.cons (.free rfl) (.cons (.free rfl) .nil)))))), rowsZ_one rfl⟩, ⟨rfl, _, rfl, rfl, rfl, rfl, id, rowsCv_one (.cons (.free rfl) (.cons (.free rfl) .nil)), rowsZ_one rfl⟩, ⟨rfl, _, rfl, rfl, rfl, rfl, id, rowsCv_eq rfl (allFree_map recV_free), rowsZ_map recV_len⟩, trivial⟩ trivial rfl rfl rfl rfl (fun j y hy => (by repeat (first | exact fam_lk (by rw [List.getElem?_map, hy]; rfl) | refine lkTo rfl ?_))) mEntryG_f mEntryG_z (fun j => (by repeat (first | exact rfl | exact famNo rfl rfl | refine lkNo rfl ?_))) ?_
      exact ⟨(.ptr rfl), (.ptr rfl), (.ptr rfl), (.free rfl), (.free rfl), trivial⟩
    ·rintro ⟨j1_0, h⟩
     replace h : i_Keep_j1 x1 x4 x6 j1_0 = some r0 := h
     unfold i_Keep_j1 at h
     show Tri _ _ _ (invR_i_Keep_1 x1 x4 x6 j1_0)
     refine tri_cond rfl (fun c9 => ?_) (fun c9 => ?_)
     ·replace h := cond_t h c9
      refine tri_region ?_
      refine s_fieldAddr rfl rfl fd43_1 rfl rfl rfl rfl ?_
      refine s_load rfl rfl rfl rfl ty41 rfl (.inr rfl) (by conv => lhs; whnf) rfl rfl rfl ?_
      refine m1 ?_
      refine s_loadR rfl rfl rfl rfl ty32 rfl rfl rfl ?_
      refine bnd1_elim h fun x10 q11 h => ?_
      have q11a := (idx_some q11).1; have q11b := (idx_some q11).2
      refine s_indexZ rfl rfl rfl rfl sl41 rfl q11a (get_lt q11b) rfl rfl rfl ?_
      refine s_store (rows' := (nr 9 mEntryN 10000 x1.l).set x6.toNat (mEntryN (21, 3) (MEntry.mk (Quest.mk x4.q.name x4.q.ty) x4.kind x4.l x4.rank x4.til))) rfl rfl rfl (nr_get q11b) ty32 rfl rfl rfl rfl rfl rfl ?_
      refine rt_nil ?_
      refine tri_sr ?_
      refine s_loadR rfl rfl rfl rfl ty43 rfl rfl rfl ?_
      refine s_storeB rfl rfl rfl ty43 rfl rfl rfl rfl rfl ?_
      refine rt_nil ?_
      refine tri_ret ?_
      have e0 := (some1 h); subst e0
      exact nest_endQ (g := mEntryG) (l := (x1.l.set x6.toNat (MEntry.mk (Quest.mk x4.q.name x4.q.ty) x4.kind x4.l x4.rank x4.til))) [((2000, 1), ⟨32, 6, nr 2000 mEntryN 10000 (x1.l.set x6.toNat (MEntry.mk (Quest.mk x4.q.name x4.q.ty) x4.kind x4.l x4.rank x4.til)), false, true⟩, some (9, 1))] [(1, ⟨32, 6, nr 2000 mEntryN 10000 (x1.l.set x6.toNat (MEntry.mk (Quest.mk x4.q.name x4.q.ty) x4.kind x4.l x4.rank x4.til)), false, true⟩)] ((nmP 9 10000 x1.l).set x6.toNat ((21, 3), MEntry.mk (Quest.mk x4.q.name x4.q.ty) x4.kind x4.l x4.rank x4.til)) (by rw [List.map_set, nmP_snd]) (rvC (resCell rfl rfl ty43) rvN) ⟨⟨rfl, _, rfl, rfl, rfl, rfl, id, rowsCv_q (by rw [List.map_set, nmP_snd]) (by rw [List.map_set, ← nmP_rows]; rfl) (fun x h => mEntryN_cv x h), nr_rowsZ mEntryN_z⟩, trivial⟩ rfl (nmOk_set (fun p hp => nmOk_fam (fun j y hy => (by repeat (first | exact fam_lk (by rw [List.getElem?_map, hy]; rfl) | refine lkTo rfl ?_))) rfl rfl (nmP_mem hp)) (nmOk_one rfl rfl rfl)) (nd_set (by rw [nmP_fst]; exact famN_nodup _ _ _) (fun p hp => nm_ne rfl (nmP_mem hp))) (fun _ => rfl) rfl mEntryG_f mEntryG_z (fun j => (by repeat (first | exact rfl | exact famNo rfl rfl | refine lkNo rfl ?_))) rfl (CvL.agg (.cons (.free rfl) (.cons (cvRefLen rfl (by simp only [List.length_set])) .nil)))
     ·replace h := cond_f h c9
      refine tri_skip ?_
      refine tri_sr ?_
      refine s_loadR rfl rfl rfl rfl ty43 rfl rfl rfl ?_
      refine s_storeB rfl rfl rfl ty43 rfl rfl rfl rfl rfl ?_
      refine rt_nil ?_
      refine tri_ret ?_
      have e0 := (some1 h); subst e0
      exact nest_endQ (g := mEntryG) (l := x1.l) [((2000, 1), ⟨32, 6, nr 2000 mEntryN 10000 x1.l, false, true⟩, some (9, 1))] [(1, ⟨32, 6, nr 2000 mEntryN 10000 x1.l, false, true⟩)] (nmP 9 10000 x1.l) nmP_snd (rvC (resCell rfl rfl ty43) rvN) ⟨⟨rfl, _, rfl, rfl, rfl, rfl, id, rowsCv_q nmP_snd nmP_rows (fun x h => mEntryN_cv x h), nr_rowsZ mEntryN_z⟩, trivial⟩ rfl (fun p hp => nmOk_fam (fun j y hy => (by repeat (first | exact fam_lk (by rw [List.getElem?_map, hy]; rfl) | refine lkTo rfl ?_))) rfl rfl (nmP_mem hp)) (by rw [nmP_fst]; exact famN_nodup _ _ _) (fun _ => rfl) rfl mEntryG_f mEntryG_z (fun j => (by repeat (first | exact rfl | exact famNo rfl rfl | refine lkNo rfl ?_))) rfl (CvL.agg (.cons (.free rfl) (.cons (.ref rfl) .nil)))
   ·replace h := cond_f h c8
    refine tri_skip ?_
    refine tri_cutI (ι := { p : List (Fin x1.l.length) // p.Nodup ∧ i_Keep_j2 x1 x4 (p.map x1.l.get) = some r0 }) (fun p => invR_i_Keep_2 x1 x4 p.1) ?_ ?_
    ·skip
     refine tri_sr ?_
     refine s_fieldAddr rfl rfl fd43_1 rfl rfl rfl rfl ?_
     refine s_load rfl rfl rfl rfl ty41 rfl (.inr rfl) (by conv => lhs; whnf) rfl rfl rfl ?_
     refine s_len (m := x1.l.length) rfl sl41 rfl rfl rfl rfl ?_
     refine s_fieldAddr rfl rfl fd43_0 rfl rfl rfl rfl ?_
     refine s_load rfl rfl rfl rfl ty3 rfl (.inr rfl) (by conv => lhs; whnf) rfl rfl rfl ?_
     refine s_of (st_geq rfl rfl rfl) rfl rfl rfl rfl ?_
     refine rt_nil ?_
     refine tri_cond rfl (fun c12 => ?_) (fun c12 => ?_)
     ·replace h := cond_t h c12
      refine tri_region ?_
      refine s_fieldAddr rfl rfl fd43_1 rfl rfl rfl rfl ?_
      refine s_load rfl rfl rfl rfl ty41 rfl (.inr rfl) (by conv => lhs; whnf) rfl rfl rfl ?_
      refine bnd2_elim h fun x13 x14 q15 h => ?_
      refine i_dropFirst_Entry_I_elim q15 fun y13 y14 hy hnd q15n => ?_
      subst hy
      refine s_callQ (A := [_, _, _, _, _, _]) (R := []) (l := x1.l) (is := (List.finRange x1.l.length)) (qs := y14) (gm := mEntryG) (fN := mEntryN) (dn := (9, 1)) (a := 9) (b := 10000) (s := false) (mi := true) (kb := []) rfl rfl cl77 (lenW (wIi_dropFirst_Entry x1.l (List.finRange x1.l.length) 78 [] rfl cl78 (fun a0 => i_Keep_2 a0) (fun a0 v0 hv => wi_Keep_2 a0 v0 hv) (fun i => i_Keep_2 (x1.l.get i)) (fun i => rfl) y13 y14 q15n)) rfl (.cons (.refOwn rfl) (.cons relFn0 .nil)) rfl fI_all.symm (fun j => rfl) (fun k => rfl) mEntryN_z (fun x hm => (.cons (.free rfl) (.cons (.free rfl) (.cons (.free rfl) (.cons (.refOwn hm) (.cons (.free rfl) (.cons (.free rfl) .nil))))))) (fun x hm => (.cons retSc (.cons retSc (.cons retSc (.cons (.inn hm) (.cons retSc (.cons retSc .nil))))))) (fun x => allSc_map recV_sc) mEntryG_f mEntryG_z memNil rfl rfl rfl ?_
      refine s_fieldAddr rfl rfl fd43_1 rfl rfl rfl rfl ?_
      refine s_store (rows' := [[.sc (.int .i64 x1.cap), .ref (9, 1) 0 y14.length]]) rfl rfl rfl rfl ty41 rfl rfl rfl rfl rfl rfl ?_
      refine rt_nil ?_
      refine Exists.intro ⟨y14, hnd, h⟩ ?_
      refine entK (items := [((3, 0), ⟨43, 2, [[.sc (.int .i64 x1.cap), .ref (9, 1) 0 y14.length]], false, true⟩, some (3, 0)), ((9, 1), ⟨32, 6, List.map (fI mEntryN 9 10000 x1.l) y14, false, true⟩, some (9, 1)), ((5, 0), ⟨32, 6, [[.sc (.string x4.q.name), .sc (.int .i64 x4.q.ty), .sc (.int .i64 x4.kind), .ref (21, 3) 0 x4.l.length, .sc (.int .i64 x4.rank), .sc (.int .i64 x4.til)]], false, true⟩, some (5, 0)), ((6, 0), ⟨43, 2, [[.sc (.int .i64 0), .nils]], false, true⟩, some (6, 0)), ((21, 3), ⟨60, 6, List.map recV x4.l, false, true⟩, some (21, 3))]) (D := []) (a := 9) (b := 10000) (l := x1.l) (g := mEntryG) ⟨⟨rfl, _, rfl, rfl, rfl, rfl, id, rowsCv_one (.cons (.free rfl) (.cons (.ref rfl) .nil)), rowsZ_one rfl⟩, ⟨rfl, _, rfl, rfl, rfl, rfl, id, rowsCv_I rfl (fun x h => mEntryN_cv x h), rowsZ_I mEntryN_z⟩, ⟨rfl, _, rfl, rfl, rfl, rfl, id, rowsCv_one (.cons (.free rfl) (.cons (.free rfl) (.cons (.free rfl) (.cons (.ref rfl) (.cons (.free rfl) (.cons (.free rfl) .nil)))))), rowsZ_one rfl⟩, ⟨rfl, _, rfl, rfl, rfl, rfl, id, rowsCv_one (.cons (.free rfl) (.cons (.free rfl) .nil)), rowsZ_one rfl⟩, ⟨rfl, _, rfl, rfl, rfl, rfl, id, rowsCv_eq rfl (allFree_map recV_free), rowsZ_map recV_len⟩, trivial⟩ trivial rfl rfl rfl rfl (fun j y hy => (by repeat (first | exact fam_lk (by rw [List.getElem?_map, hy]; rfl) | refine lkTo rfl ?_))) mEntryG_f mEntryG_z (fun j => (by repeat (first | exact rfl | exact famNo rfl rfl | refine lkNo rfl ?_))) ?_
      exact ⟨(.ptr rfl), (.ptr rfl), (.ptr rfl), trivial⟩
     ·replace h := cond_f h c12
      refine tri_skip ?_
      refine Exists.intro ⟨List.finRange x1.l.length, List.nodup_finRange _, by rw [finMap_get]; exact h⟩ ?_
      refine entK (items := [((3, 0), ⟨43, 2, [[.sc (.int .i64 x1.cap), .ref (9, 1) 0 (List.finRange x1.l.length).length]], false, true⟩, some (3, 0)), ((9, 1), ⟨32, 6, List.map (fI mEntryN 9 10000 x1.l) (List.finRange x1.l.length), false, true⟩, some (9, 1)), ((5, 0), ⟨32, 6, [[.sc (.string x4.q.name), .sc (.int .i64 x4.q.ty), .sc (.int .i64 x4.kind), .ref (21, 3) 0 x4.l.length, .sc (.int .i64 x4.rank), .sc (.int .i64 x4.til)]], false, true⟩, some (5, 0)), ((6, 0), ⟨43, 2, [[.sc (.int .i64 0), .nils]], false, true⟩, some (6, 0)), ((21, 3), ⟨60, 6, List.map recV x4.l, false, true⟩, some (21, 3))]) (D := []) (a := 9) (b := 10000) (l := x1.l) (g := mEntryG) ⟨⟨rfl, _, rfl, rfl, rfl, rfl, id, rowsCv_one (.cons (.free rfl) (.cons (cvRefLen rfl (by simp)) .nil)), rowsZ_one rfl⟩, ⟨rfl, _, rfl, rfl, rfl, rfl, id, rowsCv_I fI_all.symm (fun x h => mEntryN_cv x h), rowsZ_I mEntryN_z⟩, ⟨rfl, _, rfl, rfl, rfl, rfl, id, rowsCv_one (.cons (.free rfl) (.cons (.free rfl) (.cons (.free rfl) (.cons (.ref rfl) (.cons (.free rfl) (.cons (.free rfl) .nil)))))), rowsZ_one rfl⟩, ⟨rfl, _, rfl, rfl, rfl, rfl, id, rowsCv_one (.cons (.free rfl) (.cons (.free rfl) .nil)), rowsZ_one rfl⟩, ⟨rfl, _, rfl, rfl, rfl, rfl, id, rowsCv_eq rfl (allFree_map recV_free), rowsZ_map recV_len⟩, trivial⟩ trivial rfl rfl rfl rfl (fun j y hy => (by repeat (first | exact fam_lk (by rw [List.getElem?_map, hy]; rfl) | refine lkTo rfl ?_))) mEntryG_f mEntryG_z (fun j => (by repeat (first | exact rfl | exact famNo rfl rfl | refine lkNo rfl ?_))) ?_
      exact ⟨(.ptr rfl), (.ptr rfl), (.ptr rfl), trivial⟩
    ·rintro ⟨j2_0, hnd, h⟩
     replace h : i_Keep_j2 x1 x4 (j2_0.map x1.l.get) = some r0 := h
     unfold i_Keep_j2 at h
     show Tri _ _ _ (invR_i_Keep_2 x1 x4 j2_0)
     refine tri_sr ?_
     refine s_fieldAddr rfl rfl fd43_1 rfl rfl rfl rfl ?_
     refine s_load rfl rfl rfl rfl ty41 rfl (.inr rfl) (by conv => lhs; whnf) rfl rfl rfl ?_
     refine s_loadR rfl rfl rfl rfl ty32 rfl rfl rfl ?_
     refine s_buildSlice (rows' := [mEntryN (21, 3) (MEntry.mk (Quest.mk x4.q.name x4.q.ty) x4.kind x4.l x4.rank x4.til)]) rfl rfl (by repeat (first | exact rfl | exact famNo rfl rfl | refine lkNo rfl ?_)) sl41 zc32 rfl rfl rfl rfl rfl rfl rfl rfl rfl ?_
     refine grd_elim h fun g12 h => ?_
     refine s_append (len := (j2_0.map x1.l.get ++ [MEntry.mk (Quest.mk x4.q.name x4.q.ty) x4.kind x4.l x4.rank x4.til]).length) rfl rfl (by repeat (first | exact rfl | exact famNo rfl rfl | refine lkNo rfl ?_)) sl41 zc32 rfl rfl rfl rfl rfl (by rw [List.length_map]) (src_ref rfl rfl rfl) (by simp) g12 rfl rfl ?_
     refine s_fieldAddr rfl rfl fd43_1 rfl rfl rfl rfl ?_
     refine s_store (rows' := [[.sc (.int .i64 x1.cap), .ref (67, 0) 0 ((j2_0.map x1.l.get ++ [MEntry.mk (Quest.mk x4.q.name x4.q.ty) x4.kind x4.l x4.rank x4.til]).length)]]) rfl rfl rfl rfl ty41 rfl rfl rfl rfl rfl rfl ?_
     refine rt_nil ?_
     refine tri_sr ?_
     refine s_loadR rfl rfl rfl rfl ty43 rfl rfl rfl ?_
     refine s_storeB rfl rfl rfl ty43 rfl rfl rfl rfl rfl ?_
     refine rt_nil ?_
     refine tri_ret ?_
     have e0 := (some1 h); subst e0
     exact nest_endQ (g := mEntryG) (l := (j2_0.map x1.l.get ++ [MEntry.mk (Quest.mk x4.q.name x4.q.ty) x4.kind x4.l x4.rank x4.til])) [((2000, 1), ⟨32, 6, nr 2000 mEntryN 10000 (j2_0.map x1.l.get ++ [MEntry.mk (Quest.mk x4.q.name x4.q.ty) x4.kind x4.l x4.rank x4.til]), false, true⟩, some (67, 0))] [(1, ⟨32, 6, nr 2000 mEntryN 10000 (j2_0.map x1.l.get ++ [MEntry.mk (Quest.mk x4.q.name x4.q.ty) x4.kind x4.l x4.rank x4.til]), false, true⟩)] (j2_0.map (nmI 9 10000 x1.l) ++ [((21, 3), MEntry.mk (Quest.mk x4.q.name x4.q.ty) x4.kind x4.l x4.rank x4.til)]) (by rw [List.map_append, nmI_snd]; rfl) (rvC (resCell rfl rfl ty43) rvN) ⟨⟨rfl, _, rfl, rfl, rfl, rfl, id, rowsCv_q (by rw [List.map_append, nmI_snd]; rfl) (by rw [List.map_append, ← nmI_rows]; rfl) (fun x h => mEntryN_cv x h), nr_rowsZ mEntryN_z⟩, trivial⟩ rfl (nmOk_app (fun p hp => nmOk_fam (fun j y hy => (by repeat (first | exact fam_lk (by rw [List.getElem?_map, hy]; rfl) | refine lkTo rfl ?_))) rfl rfl (nmI_mem hp)) (nmOk_one rfl rfl rfl)) (nd_app (nmI_nodup hnd) (fun p hp => nm_ne rfl (nmI_mem hp))) (fun _ => rfl) rfl mEntryG_f mEntryG_z (fun j => (by repeat (first | exact rfl | exact famNo rfl rfl | refine lkNo rfl ?_))) rfl (CvL.agg (.cons (.free rfl) (.cons (.ref rfl) .nil)))

/- laws.eqQuest -/

set_option maxRecDepth 4000 in
set_option maxHeartbeats 800000 in
theorem ww_eqQuest (p0 : Quest) (p1 : Quest) (r0 : Bool) (h : w_eqQuest p0 p1 = some r0) : Runs Tryd.prog 51 [.agg (questV p0), .agg (questV p1)] [] (.sc (.bool r0)) [] := by
 unfold w_eqQuest at h
 refine runsR [.tmp 4] Tryd.func51 rfl rfl rfl rfl ?_
 rw [Tryd.ntmps51]
 refine tri_sr ?_
 refine s_box rfl rfl rfl rfl rfl rfl rfl ?_
 refine s_box rfl rfl rfl rfl rfl rfl rfl ?_
 refine s_mv (.inr rfl) (v := .sc (.bool false)) rfl rfl rfl rfl ?_
 refine rt_nil ?_
 refine tri_seq ?_
 refine tri_sr ?_
 refine s_fieldAddr rfl rfl fd29_0 rfl rfl rfl rfl ?_
 refine s_load rfl rfl rfl rfl ty9 rfl (.inr rfl) (by conv => lhs; whnf) rfl rfl rfl ?_
 refine s_fieldAddr rfl rfl fd29_0 rfl rfl rfl rfl ?_
 refine s_load rfl rfl rfl rfl ty9 rfl (.inr rfl) (by conv => lhs; whnf) rfl rfl rfl ?_
 refine s_of (st_neS rfl rfl rfl) rfl rfl rfl rfl ?_
 refine rt_nil ?_
 refine tri_cond rfl (fun c1 => ?_) (fun c1 => ?_)
 ·replace h := cond_t h c1
  refine tri_sr ?_
  refine s_mv (.inr rfl) (v := .sc (.bool false)) rfl rfl rfl rfl ?_
  refine rt_nil ?_
  refine tri_ret ?_
  have e0 := (some1 h); subst e0
  exact endY [] [] (rvC (resTmp rfl) rvN) trivial trivial rfl rfl rfl rfl (.free rfl)
 ·replace h := cond_f h c1
  refine tri_skip ?_
  refine tri_seq ?_
  refine tri_sr ?_
  refine s_fieldAddr rfl rfl fd29_1 rfl rfl rfl rfl ?_
  refine s_load rfl rfl rfl rfl ty3 rfl (.inr rfl) (by conv => lhs; whnf) rfl rfl rfl ?_
  refine s_fieldAddr rfl rfl fd29_1 rfl rfl rfl rfl ?_
  refine s_load rfl rfl rfl rfl ty3 rfl (.inr rfl) (by conv => lhs; whnf) rfl rfl rfl ?_
  refine s_of (st_neI rfl rfl rfl) rfl rfl rfl rfl ?_
  refine rt_nil ?_
  refine tri_cond rfl (fun c2 => ?_) (fun c2 => ?_)
  ·replace h := cond_t h c2
   refine tri_sr ?_
   refine s_mv (.inr rfl) (v := .sc (.bool false)) rfl rfl rfl rfl ?_
   refine rt_nil ?_
   refine tri_ret ?_
   have e0 := (some1 h); subst e0
   exact endY [] [] (rvC (resTmp rfl) rvN) trivial trivial rfl rfl rfl rfl (.free rfl)
  ·replace h := cond_f h c2
   refine tri_skip ?_
   refine tri_sr ?_
   refine s_mv (.inr rfl) (v := .sc (.bool true)) rfl rfl rfl rfl ?_
   refine rt_nil ?_
   refine tri_ret ?_
   have e0 := (some1 h); subst e0
   exact endY [] [] (rvC (resTmp rfl) rvN) trivial trivial rfl rfl rfl rfl (.free rfl)

/- laws.eqRecord -/

set_option maxRecDepth 4000 in
set_option maxHeartbeats 800000 in
theorem ww_eqRecord (p0 : Rec) (p1 : Rec) (r0 : Bool) (h : w_eqRecord p0 p1 = some r0) : Runs Tryd.prog 99 [.agg (recV p0), .agg (recV p1)] [] (.sc (.bool r0)) [] := by
 unfold w_eqRecord at h
 refine runsR [.tmp 4] Tryd.func99 rfl rfl rfl rfl ?_
 rw [Tryd.ntmps99]
 refine tri_sr ?_
 refine s_box rfl rfl rfl rfl rfl rfl rfl ?_
 refine s_box rfl rfl rfl rfl rfl rfl rfl ?_
 refine s_mv (.inr rfl) (v := .sc (.bool false)) rfl rfl rfl rfl ?_
 refine rt_nil ?_
 refine tri_seq ?_
 refine tri_sr ?_
 refine s_fieldAddr rfl rfl fd60_0 rfl rfl rfl rfl ?_
 refine s_load rfl rfl rfl rfl ty9 rfl (.inr rfl) (by conv => lhs; whnf) rfl rfl rfl ?_
 refine s_fieldAddr rfl rfl fd60_0 rfl rfl rfl rfl ?_
 refine s_load rfl rfl rfl rfl ty9 rfl (.inr rfl) (by conv => lhs; whnf) rfl rfl rfl ?_
 refine s_of (st_neS rfl rfl rfl) rfl rfl rfl rfl ?_
 refine rt_nil ?_
 refine tri_cond rfl (fun c1 => ?_) (fun c1 => ?_)
 ·replace h := cond_t h c1
  refine tri_sr ?_
  refine s_mv (.inr rfl) (v := .sc (.bool false)) rfl rfl rfl rfl ?_
  refine rt_nil ?_
  refine tri_ret ?_
  have e0 := (some1 h); subst e0
  exact endY [] [] (rvC (resTmp rfl) rvN) trivial trivial rfl rfl rfl rfl (.free rfl)
 ·replace h := cond_f h c1
  refine tri_skip ?_
  refine tri_seq ?_
  refine tri_sr ?_
  refine s_fieldAddr rfl rfl fd60_1 rfl rfl rfl rfl ?_
  refine s_load rfl rfl rfl rfl ty3 rfl (.inr rfl) (by conv => lhs; whnf) rfl rfl rfl ?_
  refine s_fieldAddr rfl rfl fd60_1 rfl rfl rfl rfl ?_
  refine s_load rfl rfl rfl rfl ty3 rfl (.inr rfl) (by conv => lhs; whnf) rfl rfl rfl ?_
  refine s_of (st_neI rfl rfl rfl) rfl rfl rfl rfl ?_
  refine rt_nil ?_
  refine tri_cond rfl (fun c2 => ?_) (fun c2 => ?_)
  ·replace h := cond_t h c2
   refine tri_sr ?_
   refine s_mv (.inr rfl) (v := .sc (.bool false)) rfl rfl rfl rfl ?_
   refine rt_nil ?_
   refine tri_ret ?_
   have e0 := (some1 h); subst e0
   exact endY [] [] (rvC (resTmp rfl) rvN) trivial trivial rfl rfl rfl rfl (.free rfl)
  ·replace h := cond_f h c2
   refine tri_skip ?_
   refine tri_seq ?_
   refine tri_sr ?_
   refine s_fieldAddr rfl rfl fd60_2 rfl rfl rfl rfl ?_
   refine s_load rfl rfl rfl rfl ty3 rfl (.inr rfl) (by conv => lhs; whnf) rfl rfl rfl ?_
   refine s_fieldAddr rfl rfl fd60_2 rfl rfl rfl rfl ?_
   refine s_load rfl rfl rfl rfl ty3 rfl (.inr rfl) (by conv => lhs; whnf) rfl rfl rfl ?_
   refine s_of (st_neI rfl rfl rfl) rfl rfl rfl rfl ?_
   refine rt_nil ?_
   refine tri_cond rfl (fun c3 => ?_) (fun c3 => ?_)
   ·replace h := cond_t h c3
    refine tri_sr ?_
    refine s_mv (.inr rfl) (v := .sc (.bool false)) rfl rfl rfl rfl ?_
    refine rt_nil ?_
    refine tri_ret ?_
    have e0 := (some1 h); subst e0
    exact endY [] [] (rvC (resTmp rfl) rvN) trivial trivial rfl rfl rfl rfl (.free rfl)
   ·replace h := cond_f h c3
    refine tri_skip ?_
    refine tri_seq ?_
    refine tri_sr ?_
    refine s_fieldAddr rfl rfl fd60_3 rfl rfl rfl rfl ?_
    refine s_load rfl rfl rfl rfl ty3 rfl (.inr rfl) (by conv => lhs; whnf) rfl rfl rfl ?_
    refine s_fieldAddr rfl rfl fd60_3 rfl rfl rfl rfl ?_
    refine s_load rfl rfl rfl rfl ty3 rfl (.inr rfl) (by conv => lhs; whnf) rfl rfl rfl ?_
    refine s_of (st_neI rfl rfl rfl) rfl rfl rfl rfl ?_
    refine rt_nil ?_
    refine tri_cond rfl (fun c4 => ?_) (fun c4 => ?_)
    ·replace h := cond_t h c4
     refine tri_sr ?_
     refine s_mv (.inr rfl) (v := .sc (.bool false)) rfl rfl rfl rfl ?_
     refine rt_nil ?_
     refine tri_ret ?_
     have e0 := (some1 h); subst e0
     exact endY [] [] (rvC (resTmp rfl) rvN) trivial trivial rfl rfl rfl rfl (.free rfl)
    ·replace h := cond_f h c4
     refine tri_skip ?_
     refine tri_seq ?_
     refine tri_sr ?_
     refine s_fieldAddr rfl rfl fd60_4 rfl rfl rfl rfl ?_
     refine s_load rfl rfl rfl rfl ty9 rfl (.inr rfl) (by conv => lhs; whnf) rfl rfl rfl ?_
     refine s_fieldAddr rfl rfl fd60_4 rfl rfl rfl rfl ?_
     refine s_load rfl rfl rfl rfl ty9 rfl (.inr rfl) (by conv => lhs; whnf) rfl rfl rfl ?_
     refine s_of (st_neS rfl rfl rfl) rfl rfl rfl rfl ?_
     refine rt_nil ?_
     refine tri_cond rfl (fun c5 => ?_) (fun c5 => ?_)
     ·replace h := cond_t h c5
      refine tri_sr ?_
      refine s_mv (.inr rfl) (v := .sc (.bool false)) rfl rfl rfl rfl ?_
      refine rt_nil ?_
      refine tri_ret ?_
      have e0 := (some1 h); subst e0
      exact endY [] [] (rvC (resTmp rfl) rvN) trivial trivial rfl rfl rfl rfl (.free rfl)
     ·replace h := cond_f h c5
      refine tri_skip ?_
      refine tri_seq ?_
      refine tri_sr ?_
      refine s_fieldAddr rfl rfl fd60_5 rfl rfl rfl rfl ?_
      refine s_load rfl rfl rfl rfl ty9 rfl (.inr rfl) (by conv => lhs; whnf) rfl rfl rfl ?_
      refine s_fieldAddr rfl rfl fd60_5 rfl rfl rfl rfl ?_
      refine s_load rfl rfl rfl rfl ty9 rfl (.inr rfl) (by conv => lhs; whnf) rfl rfl rfl ?_
      refine s_of (st_neS rfl rfl rfl) rfl rfl rfl rfl ?_
      refine rt_nil ?_
      refine tri_cond rfl (fun c6 => ?_) (fun c6 => ?_)
      ·replace h := cond_t h c6
       refine tri_sr ?_
       refine s_mv (.inr rfl) (v := .sc (.bool false)) rfl rfl rfl rfl ?_
       refine rt_nil ?_
       refine tri_ret ?_
       have e0 := (some1 h); subst e0
       exact endY [] [] (rvC (resTmp rfl) rvN) trivial trivial rfl rfl rfl rfl (.free rfl)
      ·replace h := cond_f h c6
       refine tri_skip ?_
       refine tri_sr ?_
       refine s_mv (.inr rfl) (v := .sc (.bool true)) rfl rfl rfl rfl ?_
       refine rt_nil ?_
       refine tri_ret ?_
       have e0 := (some1 h); subst e0
       exact endY [] [] (rvC (resTmp rfl) rvN) trivial trivial rfl rfl rfl rfl (.free rfl)

/- laws.eqRecordS -/
def inv_w_eqRecordS_0 (p0 : List Rec) (p1 : List Rec) (v0_0 : Nat) : St := mkT 27 [(0, .lst 6 (List.map recV p0)), (1, .lst 6 (List.map recV p1)), (5, .sc (.int .i64 (v0_0 : Int)))] []
set_option maxRecDepth 4000 in
set_option maxHeartbeats 800000 in
theorem ww_eqRecordS (p0 : List Rec) (p1 : List Rec) (r0 : Bool) (h : w_eqRecordS p0 p1 = some r0) : Runs Tryd.prog 52 [.lst 6 (List.map recV p0), .lst 6 (List.map recV p1)] [] (.sc (.bool r0)) [] := by
 unfold w_eqRecordS at h
 refine runsR [.tmp 4] Tryd.func52 rfl rfl rfl rfl ?_
 rw [Tryd.ntmps52]
 refine tri_sr ?_
 refine s_mv (.inr rfl) (v := .sc (.bool false)) rfl rfl rfl rfl ?_
 refine rt_nil ?_
 refine tri_seq ?_
 refine tri_sr ?_
 refine m1 ?_
 refine s_lenL rfl sl30 rfl rfl rfl rfl ?_
 refine m1 ?_
 refine s_lenL rfl sl30 rfl rfl rfl rfl ?_
 refine s_of (st_neI rfl rfl rfl) rfl rfl rfl rfl ?_
 refine rt_nil ?_
 refine tri_cond rfl (fun c1 => ?_) (fun c1 => ?_)
 ·replace h := cond_t h c1
  refine tri_sr ?_
  refine s_mv (.inr rfl) (v := .sc (.bool false)) rfl rfl rfl rfl ?_
  refine rt_nil ?_
  refine tri_ret ?_
  have e0 := (some1 h); subst e0
  exact endY [] [] (rvC (resTmp rfl) rvN) trivial trivial rfl rfl rfl rfl (.free rfl)
 ·replace h := cond_f h c1
  refine tri_skip ?_
  refine tri_seq ?_
  refine tri_sr ?_
  refine s_mv (.inr rfl) (v := .sc (.int .i64 0)) rfl rfl rfl rfl ?_
  refine rt_nil ?_
  refine tri_block ?_
  refine tri_lstM 0 rfl (fun hl0 => ?_)
  refine tri_loop (ι := { p : (List Rec) × Nat // p0.drop p.2 = p.1 ∧ w_eqRecordS_l0 p1 p.1 p.2 = some r0 }) (fun p => inv_w_eqRecordS_0 p0 p1 p.1.2) (fun p => p.1.1.length) ⟨(p0, 0), rfl, h⟩ ?_ ?_
  ·skip
   refine entX [] [] trivial trivial rfl rfl ?_
   exact ⟨(.free rfl), (.free rfl), (.free rfl), trivial⟩
  ·rintro ⟨⟨lrs0, v0_0⟩, hd0, h⟩
   replace hd0 : p0.drop v0_0 = lrs0 := hd0
   replace h : w_eqRecordS_l0 p1 lrs0 v0_0 = some r0 := h
   show Tri _ _ _ (inv_w_eqRecordS_0 p0 p1 v0_0)
   refine tri_seq ?_
   refine tri_sr ?_
   refine m1 ?_
   refine m1 ?_
   refine s_lenL rfl sl30 rfl rfl rfl rfl ?_
   refine s_of (st_lss rfl rfl rfl) rfl rfl rfl rfl ?_
   refine rt_nil ?_
   refine tri_cond rfl (fun c2 => ?_) (fun c2 => ?_)
   ·refine drop_elim hd0 c2 fun e0 rs0 he hx0 hn0 => ?_
    subst he
    rw [w_eqRecordS_l0] at h
    refine tri_skip ?_
    refine tri_seq ?_
    refine tri_block ?_
    refine tri_seq ?_
    refine tri_draw mixed ?_
    refine m1 ?_
    refine m1 ?_
    refine s_indexF (i := v0_0) rfl rfl rfl sl30 (get_ltM hx0) rfl rfl rfl ?_
    refine s_loadFR rfl rfl (rowG hx0) ty60 rfl rfl rfl ?_
    refine m1 ?_
    refine m1 ?_
    refine bnd1_elim h fun x3 q4 h => ?_
    have q4a := (idx_some q4).1; have q4b := (idx_some q4).2
    refine s_indexFZ rfl rfl rfl sl30 q4a (get_ltM q4b) rfl rfl rfl ?_
    refine s_loadFR rfl rfl (rowG q4b) ty60 rfl rfl rfl ?_
    refine bnd1_elim h fun x5 q6 h => ?_
    refine s_callN (kb := []) (ns := []) (v := .sc (.bool x5)) rfl rfl cl99 (ww_eqRecord e0 x3 x5 q6) rfl (.cons (relAgg rfl) (.cons (relAgg rfl) .nil)) trivial memNil .nil memNil rfl trivial memNil rfl rfl rfl rfl rfl rfl ?_
    refine s_of (st_not rfl rfl) rfl rfl rfl rfl ?_
    refine rt_nil ⟨by kernel_rfl, ?_⟩
    refine tri_cond rfl (fun c7 => ?_) (fun c7 => ?_)
    ·replace h := cond_t h c7
     refine tri_sr ?_
     refine s_mv (.inr rfl) (v := .sc (.bool false)) rfl rfl rfl rfl ?_
     refine rt_nil ?_
     refine tri_ret ?_
     have e0 := (some1 h); subst e0
     exact endY [] [] (rvC (resTmp rfl) rvN) trivial trivial rfl rfl rfl rfl (.free rfl)
    ·replace h := cond_f h c7
     refine tri_skip ?_
     refine tri_region ?_
     refine m1 ?_
     refine s_inc (a := v0_0) (b := 1) rfl rfl rfl rfl (by have := get_lt hx0; have := hl0; omega) rfl rfl rfl ?_
     refine m2 ?_
     refine rt_nil ?_
     refine Exists.intro ⟨(rs0, (v0_0 + 1)), hn0, h⟩ (And.intro (Nat.lt_succ_self _) ?_)
     refine entX [] [] trivial trivial rfl rfl ?_
     exact ⟨(.free rfl), (.free rfl), (.free rfl), trivial⟩
   ·have he := drop_f hd0 c2; subst he
    rw [w_eqRecordS_l0] at h
    refine tri_exit ?_
    refine tri_sr ?_
    refine s_mv (.inr rfl) (v := .sc (.bool true)) rfl rfl rfl rfl ?_
    refine rt_nil ?_
    refine tri_ret ?_
    have e0 := (some1 h); subst e0
    exact endY [] [] (rvC (resTmp rfl) rvN) trivial trivial rfl rfl rfl rfl (.free rfl)

/- laws.eqEntry -/

set_option maxRecDepth 4000 in
set_option maxHeartbeats 800000 in
theorem ww_eqEntry (p0 : MEntry) (p1 : MEntry) (r0 : Bool) (h : w_eqEntry p0 p1 = some r0) : Runs Tryd.prog 13 [.agg (mEntryV p0), .agg (mEntryV p1)] [] (.sc (.bool r0)) [] := by
 unfold w_eqEntry at h
 refine runsR [.tmp 4] Tryd.func13 rfl rfl rfl rfl ?_
 rw [Tryd.ntmps13]
 refine tri_sr ?_
 refine s_box rfl rfl rfl rfl rfl rfl rfl ?_
 refine s_box rfl rfl rfl rfl rfl rfl rfl ?_
 refine s_mv (.inr rfl) (v := .sc (.bool false)) rfl rfl rfl rfl ?_
 refine rt_nil ?_
 refine tri_seq ?_
 refine tri_sr ?_
 refine s_fieldAddr rfl rfl fd32_0 rfl rfl rfl rfl ?_
 refine s_load (v := .agg (questV p0.q)) rfl rfl rfl rfl ty29 rfl (.inl rfl) rfl rfl rfl rfl ?_
 refine s_fieldAddr rfl rfl fd32_0 rfl rfl rfl rfl ?_
 refine s_load (v := .agg (questV p1.q)) rfl rfl rfl rfl ty29 rfl (.inl rfl) rfl rfl rfl rfl ?_
 refine bnd1_elim h fun x1 q2 h => ?_
 refine s_callN (kb := []) (ns := []) (v := .sc (.bool x1)) rfl rfl cl51 (ww_eqQuest p0.q p1.q x1 q2) rfl (.cons (relAgg rfl) (.cons (relAgg rfl) .nil)) trivial memNil .nil memNil rfl trivial memNil rfl rfl rfl rfl rfl rfl ?_
 refine s_of (st_not rfl rfl) rfl rfl rfl rfl ?_
 refine rt_nil ?_
 refine tri_cond rfl (fun c3 => ?_) (fun c3 => ?_)
 ·replace h := cond_t h c3
  refine tri_sr ?_
  refine s_mv (.inr rfl) (v := .sc (.bool false)) rfl rfl rfl rfl ?_
  refine rt_nil ?_
  refine tri_ret ?_
  have e0 := (some1 h); subst e0
  exact endY [] [] (rvC (resTmp rfl) rvN) trivial trivial rfl rfl rfl rfl (.free rfl)
 ·replace h := cond_f h c3
  refine tri_skip ?_
  refine tri_seq ?_
  refine tri_sr ?_
  refine s_fieldAddr rfl rfl fd32_1 rfl rfl rfl rfl ?_
  refine s_load rfl rfl rfl rfl ty3 rfl (.inr rfl) (by conv => lhs; whnf) rfl rfl rfl ?_
  refine s_fieldAddr rfl rfl fd32_1 rfl rfl rfl rfl ?_
  refine s_load rfl rfl rfl rfl ty3 rfl (.inr rfl) (by conv => lhs; whnf) rfl rfl rfl ?_
  refine s_of (st_neI rfl rfl rfl) rfl rfl rfl rfl ?_
  refine rt_nil ?_
  refine tri_cond rfl (fun c4 => ?_) (fun c4 => ?_)
  ·replace h := cond_t h c4
   refine tri_sr ?_
   refine s_mv (.inr rfl) (v := .sc (.bool false)) rfl rfl rfl rfl ?_
   refine rt_nil ?_
   refine tri_ret ?_
   have e0 := (some1 h); subst e0
   exact endY [] [] (rvC (resTmp rfl) rvN) trivial trivial rfl rfl rfl rfl (.free rfl)
  ·replace h := cond_f h c4
   refine tri_skip ?_
   refine tri_seq ?_
   refine tri_sr ?_
   refine s_fieldAddr rfl rfl fd32_2 rfl rfl rfl rfl ?_
   refine s_load rfl rfl rfl rfl ty30 rfl (.inr rfl) (by conv => lhs; whnf) rfl rfl rfl ?_
   refine s_fieldAddr rfl rfl fd32_2 rfl rfl rfl rfl ?_
   refine s_load rfl rfl rfl rfl ty30 rfl (.inr rfl) (by conv => lhs; whnf) rfl rfl rfl ?_
   refine bnd1_elim h fun x5 q6 h => ?_
   refine s_callN (kb := []) (ns := []) (v := .sc (.bool x5)) rfl rfl cl52 (ww_eqRecordS p0.l p1.l x5 q6) rfl (.cons (.free rfl) (.cons (.free rfl) .nil)) trivial memNil .nil memNil rfl trivial memNil rfl rfl rfl rfl rfl rfl ?_
   refine s_of (st_not rfl rfl) rfl rfl rfl rfl ?_
   refine rt_nil ?_
   refine tri_cond rfl (fun c7 => ?_) (fun c7 => ?_)
   ·replace h := cond_t h c7
    refine tri_sr ?_
    refine s_mv (.inr rfl) (v := .sc (.bool false)) rfl rfl rfl rfl ?_
    refine rt_nil ?_
    refine tri_ret ?_
    have e0 := (some1 h); subst e0
    exact endY [] [] (rvC (resTmp rfl) rvN) trivial trivial rfl rfl rfl rfl (.free rfl)
   ·replace h := cond_f h c7
    refine tri_skip ?_
    refine tri_seq ?_
    refine tri_sr ?_
    refine s_fieldAddr rfl rfl fd32_3 rfl rfl rfl rfl ?_
    refine s_load rfl rfl rfl rfl ty3 rfl (.inr rfl) (by conv => lhs; whnf) rfl rfl rfl ?_
    refine s_fieldAddr rfl rfl fd32_3 rfl rfl rfl rfl ?_
    refine s_load rfl rfl rfl rfl ty3 rfl (.inr rfl) (by conv => lhs; whnf) rfl rfl rfl ?_
    refine s_of (st_neI rfl rfl rfl) rfl rfl rfl rfl ?_
    refine rt_nil ?_
    refine tri_cond rfl (fun c8 => ?_) (fun c8 => ?_)
    ·replace h := cond_t h c8
     refine tri_sr ?_
     refine s_mv (.inr rfl) (v := .sc (.bool false)) rfl rfl rfl rfl ?_
     refine rt_nil ?_
     refine tri_ret ?_
     have e0 := (some1 h); subst e0
     exact endY [] [] (rvC (resTmp rfl) rvN) trivial trivial rfl rfl rfl rfl (.free rfl)
    ·replace h := cond_f h c8
     refine tri_skip ?_
     refine tri_seq ?_
     refine tri_sr ?_
     refine s_fieldAddr rfl rfl fd32_4 rfl rfl rfl rfl ?_
     refine s_load rfl rfl rfl rfl ty3 rfl (.inr rfl) (by conv => lhs; whnf) rfl rfl rfl ?_
     refine s_fieldAddr rfl rfl fd32_4 rfl rfl rfl rfl ?_
     refine s_load rfl rfl rfl rfl ty3 rfl (.inr rfl) (by conv => lhs; whnf) rfl rfl rfl ?_
     refine s_of (st_neI rfl rfl rfl) rfl rfl rfl rfl ?_
     refine rt_nil ?_
     refine tri_cond rfl (fun c9 => ?_) (fun c9 => ?_)
     ·replace h := cond_t h c9
      refine tri_sr ?_
      refine s_mv (.inr rfl) (v := .sc (.bool false)) rfl rfl rfl rfl ?_
      refine rt_nil ?_
      refine tri_ret ?_
      have e0 := (some1 h); subst e0
      exact endY [] [] (rvC (resTmp rfl) rvN) trivial trivial rfl rfl rfl rfl (.free rfl)
     ·replace h := cond_f h c9
      refine tri_skip ?_
      refine tri_sr ?_
      refine s_mv (.inr rfl) (v := .sc (.bool true)) rfl rfl rfl rfl ?_
      refine rt_nil ?_
      refine tri_ret ?_
      have e0 := (some1 h); subst e0
      exact endY [] [] (rvC (resTmp rfl) rvN) trivial trivial rfl rfl rfl rfl (.free rfl)

/- laws.eqEntryS -/
def inv_w_eqEntryS_0 (p0 : List MEntry) (p1 : List MEntry) (v0_0 : Nat) : St := mkT 27 [(0, .lst 6 (List.map mEntryV p0)), (1, .lst 6 (List.map mEntryV p1)), (5, .sc (.int .i64 (v0_0 : Int)))] []
set_option maxRecDepth 4000 in
set_option maxHeartbeats 800000 in
theorem ww_eqEntryS (p0 : List MEntry) (p1 : List MEntry) (r0 : Bool) (h : w_eqEntryS p0 p1 = some r0) : Runs Tryd.prog 58 [.lst 6 (List.map mEntryV p0), .lst 6 (List.map mEntryV p1)] [] (.sc (.bool r0)) [] := by
 unfold w_eqEntryS at h
 refine runsR [.tmp 4] Tryd.func58 rfl rfl rfl rfl ?_
 rw [Tryd.ntmps58]
 refine tri_sr ?_
 refine s_mv (.inr rfl) (v := .sc (.bool false)) rfl rfl rfl rfl ?_
 refine rt_nil ?_
 refine tri_seq ?_
 refine tri_sr ?_
 refine m1 ?_
 refine s_lenL rfl sl41 rfl rfl rfl rfl ?_
 refine m1 ?_
 refine s_lenL rfl sl41 rfl rfl rfl rfl ?_
 refine s_of (st_neI rfl rfl rfl) rfl rfl rfl rfl ?_
 refine rt_nil ?_
 refine tri_cond rfl (fun c1 => ?_) (fun c1 => ?_)
 ·replace h := cond_t h c1
  refine tri_sr ?_
  refine s_mv (.inr rfl) (v := .sc (.bool false)) rfl rfl rfl rfl ?_
  refine rt_nil ?_
  refine tri_ret ?_
  have e0 := (some1 h); subst e0
  exact endY [] [] (rvC (resTmp rfl) rvN) trivial trivial rfl rfl rfl rfl (.free rfl)
 ·replace h := cond_f h c1
  refine tri_skip ?_
  refine tri_seq ?_
  refine tri_sr ?_
  refine s_mv (.inr rfl) (v := .sc (.int .i64 0)) rfl rfl rfl rfl ?_
  refine rt_nil ?_
  refine tri_block ?_
  refine tri_lstM 0 rfl (fun hl0 => ?_)
  refine tri_loop (ι := { p : (List MEntry) × Nat // p0.drop p.2 = p.1 ∧ w_eqEntryS_l0 p1 p.1 p.2 = some r0 }) (fun p => inv_w_eqEntryS_0 p0 p1 p.1.2) (fun p => p.1.1.length) ⟨(p0, 0), rfl, h⟩ ?_ ?_
  ·skip
   refine entX [] [] trivial trivial rfl rfl ?_
   exact ⟨(.free rfl), (.free rfl), (.free rfl), trivial⟩
  ·rintro ⟨⟨lrs0, v0_0⟩, hd0, h⟩
   replace hd0 : p0.drop v0_0 = lrs0 := hd0
   replace h : w_eqEntryS_l0 p1 lrs0 v0_0 = some r0 := h
   show Tri _ _ _ (inv_w_eqEntryS_0 p0 p1 v0_0)
   refine tri_seq ?_
   refine tri_sr ?_
   refine m1 ?_
   refine m1 ?_
   refine s_lenL rfl sl41 rfl rfl rfl rfl ?_
   refine s_of (st_lss rfl rfl rfl) rfl rfl rfl rfl ?_
   refine rt_nil ?_
   refine tri_cond rfl (fun c2 => ?_) (fun c2 => ?_)
   ·refine drop_elim hd0 c2 fun e0 rs0 he hx0 hn0 => ?_
    subst he
    rw [w_eqEntryS_l0] at h
    refine tri_skip ?_
    refine tri_seq ?_
    refine tri_block ?_
    refine tri_seq ?_
    refine tri_draw mixed ?_
    refine m1 ?_
    refine m1 ?_
    refine s_indexF (i := v0_0) rfl rfl rfl sl41 (get_ltM hx0) rfl rfl rfl ?_
    refine s_loadFR rfl rfl (rowG hx0) ty32 rfl rfl rfl ?_
    refine m1 ?_
    refine m1 ?_
    refine bnd1_elim h fun x3 q4 h => ?_
    have q4a := (idx_some q4).1; have q4b := (idx_some q4).2
    refine s_indexFZ rfl rfl rfl sl41 q4a (get_ltM q4b) rfl rfl rfl ?_
    refine s_loadFR rfl rfl (rowG q4b) ty32 rfl rfl rfl ?_
    refine bnd1_elim h fun x5 q6 h => ?_
    refine s_callN (kb := []) (ns := []) (v := .sc (.bool x5)) rfl rfl cl13 (ww_eqEntry e0 x3 x5 q6) rfl (.cons (relAgg rfl) (.cons (relAgg rfl) .nil)) trivial memNil .nil memNil rfl trivial memNil rfl rfl rfl rfl rfl rfl ?_
    refine s_of (st_not rfl rfl) rfl rfl rfl rfl ?_
    refine rt_nil ⟨by kernel_rfl, ?_⟩
    refine tri_cond rfl (fun c7 => ?_) (fun c7 => ?_)
    ·replace h := cond_t h c7
     refine tri_sr ?_
     refine s_mv (.inr rfl) (v := .sc (.bool false)) rfl rfl rfl rfl ?_
     refine rt_nil ?_
     refine tri_ret ?_
     have e0 := (some1 h); subst e0
     exact endY [] [] (rvC (resTmp rfl) rvN) trivial trivial rfl rfl rfl rfl (.free rfl)
    ·replace h := cond_f h c7
     refine tri_skip ?_
     refine tri_region ?_
     refine m1 ?_
     refine s_inc (a := v0_0) (b := 1) rfl rfl rfl rfl (by have := get_lt hx0; have := hl0; omega) rfl rfl rfl ?_
     refine m2 ?_
     refine rt_nil ?_
     refine Exists.intro ⟨(rs0, (v0_0 + 1)), hn0, h⟩ (And.intro (Nat.lt_succ_self _) ?_)
     refine entX [] [] trivial trivial rfl rfl ?_
     exact ⟨(.free rfl), (.free rfl), (.free rfl), trivial⟩
   ·have he := drop_f hd0 c2; subst he
    rw [w_eqEntryS_l0] at h
    refine tri_exit ?_
    refine tri_sr ?_
    refine s_mv (.inr rfl) (v := .sc (.bool true)) rfl rfl rfl rfl ?_
    refine rt_nil ?_
    refine tri_ret ?_
    have e0 := (some1 h); subst e0
    exact endY [] [] (rvC (resTmp rfl) rvN) trivial trivial rfl rfl rfl rfl (.free rfl)

/- laws.eqCache -/

set_option maxRecDepth 4000 in
set_option maxHeartbeats 800000 in
theorem ww_eqCache (p0 : MCache) (p1 : MCache) (r0 : Bool) (h : w_eqCache p0 p1 = some r0) : Runs Tryd.prog 18 [.agg (mCacheV p0), .agg (mCacheV p1)] [] (.sc (.bool r0)) [] := by
 unfold w_eqCache at h
 refine runsR [.tmp 4] Tryd.func18 rfl rfl rfl rfl ?_
 rw [Tryd.ntmps18]
 refine tri_sr ?_
 refine s_box rfl rfl rfl rfl rfl rfl rfl ?_
 refine s_box rfl rfl rfl rfl rfl rfl rfl ?_
 refine s_mv (.inr rfl) (v := .sc (.bool false)) rfl rfl rfl rfl ?_
 refine rt_nil ?_
 refine tri_seq ?_
 refine tri_sr ?_
 refine s_fieldAddr rfl rfl fd43_0 rfl rfl rfl rfl ?_
 refine s_load rfl rfl rfl rfl ty3 rfl (.inr rfl) (by conv => lhs; whnf) rfl rfl rfl ?_
 refine s_fieldAddr rfl rfl fd43_0 rfl rfl rfl rfl ?_
 refine s_load rfl rfl rfl rfl ty3 rfl (.inr rfl) (by conv => lhs; whnf) rfl rfl rfl ?_
 refine s_of (st_neI rfl rfl rfl) rfl rfl rfl rfl ?_
 refine rt_nil ?_
 refine tri_cond rfl (fun c1 => ?_) (fun c1 => ?_)
 ·replace h := cond_t h c1
  refine tri_sr ?_
  refine s_mv (.inr rfl) (v := .sc (.bool false)) rfl rfl rfl rfl ?_
  refine rt_nil ?_
  refine tri_ret ?_
  have e0 := (some1 h); subst e0
  exact endY [] [] (rvC (resTmp rfl) rvN) trivial trivial rfl rfl rfl rfl (.free rfl)
 ·replace h := cond_f h c1
  refine tri_skip ?_
  refine tri_seq ?_
  refine tri_sr ?_
  refine s_fieldAddr rfl rfl fd43_1 rfl rfl rfl rfl ?_
  refine s_load rfl rfl rfl rfl ty41 rfl (.inr rfl) (by conv => lhs; whnf) rfl rfl rfl ?_
  refine s_fieldAddr rfl rfl fd43_1 rfl rfl rfl rfl ?_
  refine s_load rfl rfl rfl rfl ty41 rfl (.inr rfl) (by conv => lhs; whnf) rfl rfl rfl ?_
  refine bnd1_elim h fun x2 q3 h => ?_
  refine s_callN (kb := []) (ns := []) (v := .sc (.bool x2)) rfl rfl cl58 (ww_eqEntryS p0.l p1.l x2 q3) rfl (.cons (.free rfl) (.cons (.free rfl) .nil)) trivial memNil .nil memNil rfl trivial memNil rfl rfl rfl rfl rfl rfl ?_
  refine s_of (st_not rfl rfl) rfl rfl rfl rfl ?_
  refine rt_nil ?_
  refine tri_cond rfl (fun c4 => ?_) (fun c4 => ?_)
  ·replace h := cond_t h c4
   refine tri_sr ?_
   refine s_mv (.inr rfl) (v := .sc (.bool false)) rfl rfl rfl rfl ?_
   refine rt_nil ?_
   refine tri_ret ?_
   have e0 := (some1 h); subst e0
   exact endY [] [] (rvC (resTmp rfl) rvN) trivial trivial rfl rfl rfl rfl (.free rfl)
  ·replace h := cond_f h c4
   refine tri_skip ?_
   refine tri_sr ?_
   refine s_mv (.inr rfl) (v := .sc (.bool true)) rfl rfl rfl rfl ?_
   refine rt_nil ?_
   refine tri_ret ?_
   have e0 := (some1 h); subst e0
   exact endY [] [] (rvC (resTmp rfl) rvN) trivial trivial rfl rfl rfl rfl (.free rfl)

/- laws.markText -/
def inv_w_markText_0  (v0_0 : Int) (v0_1 : ByteArray) : St := mkT 20 [(0, .sc (.int .i64 v0_0)), (3, .sc (.string v0_1))] []
set_option maxRecDepth 4000 in
set_option maxHeartbeats 800000 in
theorem ww_markText (p0 : Int) (r0 : ByteArray) (h : w_markText p0 = some r0) : Runs Tryd.prog 111 [.sc (.int .i64 p0)] [] (.sc (.string r0)) [] := by
 unfold w_markText at h
 refine runsR [.tmp 2] Tryd.func111 rfl rfl rfl rfl ?_
 rw [Tryd.ntmps111]
 refine tri_sr ?_
 refine s_mv (.inr rfl) (v := .sc (.string (⟨#[]⟩ : ByteArray))) rfl rfl rfl rfl ?_
 refine rt_nil ?_
 refine tri_seq ?_
 refine tri_sr ?_
 refine m1 ?_
 refine s_of (st_leq rfl rfl rfl) rfl rfl rfl rfl ?_
 refine rt_nil ?_
 refine tri_cond rfl (fun c1 => ?_) (fun c1 => ?_)
 ·replace h := cond_t h c1
  refine tri_sr ?_
  refine s_mv (.inr rfl) (v := .sc (.string (⟨#[109, 48]⟩ : ByteArray))) rfl rfl rfl rfl ?_
  refine rt_nil ?_
  refine tri_ret ?_
  have e0 := (some1 h); subst e0
  exact endY [] [] (rvC (resTmp rfl) rvN) trivial trivial rfl rfl rfl rfl (.free rfl)
 ·replace h := cond_f h c1
  refine tri_skip ?_
  refine tri_sr ?_
  refine s_mv (.inr rfl) (v := .sc (.string (⟨#[]⟩ : ByteArray))) rfl rfl rfl rfl ?_
  refine rt_nil ?_
  refine tri_seq ?_
  refine tri_block ?_
  refine tri_loop (ι := { p : Nat × Int × ByteArray // w_markText_l0 p.1 p.2.1 p.2.2 = some r0 }) (fun p => inv_w_markText_0 p.1.2.1 p.1.2.2) (fun p => p.1.1) ⟨(fuel0, p0, (⟨#[]⟩ : ByteArray)), h⟩ ?_ ?_
  ·skip
   refine entX [] [] trivial trivial rfl rfl ?_
   exact ⟨(.free rfl), (.free rfl), trivial⟩
  ·rintro ⟨⟨f0, v0_0, v0_1⟩, h⟩
   replace h : w_markText_l0 f0 v0_0 v0_1 = some r0 := h
   cases f0 with
   | zero => cases h
   | succ f0 =>
   rw [w_markText_l0] at h
   show Tri _ _ _ (inv_w_markText_0 v0_0 v0_1)
   refine tri_seq ?_
   refine tri_sr ?_
   refine m1 ?_
   refine s_of (st_gtr rfl rfl rfl) rfl rfl rfl rfl ?_
   refine rt_nil ?_
   refine tri_cond rfl (fun c2 => ?_) (fun c2 => ?_)
   ·replace h := cond_t h c2
    refine tri_skip ?_
    refine tri_block ?_
    refine tri_sr ?_
    refine m1 ?_
    refine s_of (st_rem rfl rfl rfl (by decide)) rfl rfl rfl rfl ?_
    refine grd_elim h fun g3 h => ?_
    refine s_addI rfl rfl rfl rfl g3 rfl rfl rfl ?_
    refine s_of (st_conv ik3 ik5 rfl rfl) rfl rfl rfl rfl ?_
    refine s_buildSlice (rows' := List.map byteV [IntKind.u8.wrap (48 + (Int.tmod v0_0 10))]) rfl rfl rfl sl47 zc5 rfl rfl rfl rfl rfl rfl rfl rfl rfl ?_
    refine s_toString rfl (src_refL rfl rfl) byt47 iss9 rfl rfl rfl rfl ?_
    refine m1 ?_
    refine grd_elim h fun g4 h => ?_
    refine s_of (st_catS g4 rfl rfl rfl) rfl rfl rfl rfl ?_
    refine m2 ?_
    refine rt_nil ?_
    refine tri_region ?_
    refine m1 ?_
    refine s_of (st_quo rfl rfl rfl (by decide)) rfl rfl rfl rfl ?_
    refine m2 ?_
    refine rt_nil ?_
    refine Exists.intro ⟨(f0, IntKind.i64.wrap (Int.tdiv v0_0 10), (strOfNums [IntKind.u8.wrap (48 + (Int.tmod v0_0 10))]) ++ v0_1), h⟩ (And.intro (Nat.lt_succ_self _) ?_)
    refine entX [] [] trivial trivial rfl rfl ?_
    exact ⟨(.free rfl), (.free rfl), trivial⟩
   ·replace h := cond_f h c2
    refine tri_exit ?_
    refine tri_sr ?_
    refine m1 ?_
    refine grd_elim h fun g5 h => ?_
    refine s_of (st_catS g5 rfl rfl rfl) rfl rfl rfl rfl ?_
    refine m2 ?_
    refine rt_nil ?_
    refine tri_ret ?_
    have e0 := (some1 h); subst e0
    exact endY [] [] (rvC (resTmp rfl) rvN) trivial trivial rfl rfl rfl rfl (.free rfl)

/- laws.markRecordS -/
def inv_w_markRecordS_0  (v0_0 : List Rec) (v0_1 : Int) (v0_2 : Int) : St := mkT 58 [(0, .ref (1000, 0) 0 v0_0.length), (1, .sc (.int .i64 v0_1)), (5, .sc (.int .i64 v0_2))] [((1000, 0), some ⟨60, 6, List.map recV v0_0, false, false⟩)]
set_option maxRecDepth 4000 in
set_option maxHeartbeats 800000 in
theorem ww_markRecordS (p0 : List Rec) (p1 : Int) (r0 : Int) (r1 : List Rec) (h : w_markRecordS p0 p1 = some (r0, r1)) : Runs Tryd.prog 83 [.ref (1000, 0) 0 p0.length, .sc (.int .i64 p1)] [⟨60, 6, List.map recV p0, false, false⟩] (.sc (.int .i64 r0)) [⟨60, 6, List.map recV r1, false, false⟩] := by
 unfold w_markRecordS at h
 refine runsR [.tmp 4] Tryd.func83 rfl rfl rfl rfl ?_
 rw [Tryd.ntmps83]
 refine tri_sr ?_
 refine s_mv (.inr rfl) (v := .sc (.int .i64 0)) rfl rfl rfl rfl ?_
 refine rt_nil ?_
 refine tri_seq ?_
 refine tri_sr ?_
 refine s_mv (.inr rfl) (v := .sc (.int .i64 0)) rfl rfl rfl rfl ?_
 refine rt_nil ?_
 refine tri_block ?_
 refine tri_loop (ι := { p : Nat × (List Rec) × Int × Int // w_markRecordS_l0 p.1 p.2.1 p.2.2.1 p.2.2.2 = some (r0, r1) }) (fun p => inv_w_markRecordS_0 p.1.2.1 p.1.2.2.1 p.1.2.2.2) (fun p => p.1.1) ⟨(fuel0, p0, p1, 0), h⟩ ?_ ?_
 ·skip
  refine entX [((1000, 0), ⟨60, 6, List.map recV p0, false, false⟩, some (1000, 0))] [] ⟨⟨rfl, _, rfl, rfl, rfl, rfl, id, rowsCv_eq rfl (allFree_map recV_free), rowsZ_map recV_len⟩, trivial⟩ trivial rfl rfl ?_
  exact ⟨(.ref rfl), (.free rfl), (.free rfl), trivial⟩
 ·rintro ⟨⟨f0, v0_0, v0_1, v0_2⟩, h⟩
  replace h : w_markRecordS_l0 f0 v0_0 v0_1 v0_2 = some (r0, r1) := h
  cases f0 with
  | zero => cases h
  | succ f0 =>
  rw [w_markRecordS_l0] at h
  show Tri _ _ _ (inv_w_markRecordS_0 v0_0 v0_1 v0_2)
  refine tri_seq ?_
  refine tri_sr ?_
  refine m1 ?_
  refine m1 ?_
  refine s_len (m := v0_0.length) rfl sl30 rfl rfl rfl rfl ?_
  refine s_of (st_lss rfl rfl rfl) rfl rfl rfl rfl ?_
  refine rt_nil ?_
  refine tri_cond rfl (fun c1 => ?_) (fun c1 => ?_)
  ·replace h := cond_t h c1
   refine tri_skip ?_
   refine tri_seq ?_
   refine tri_block ?_
   refine tri_sr ?_
   refine m1 ?_
   refine m1 ?_
   refine m1 ?_
   refine bnd1_elim h fun x2 q3 h => ?_
   refine s_callN (kb := []) (ns := []) (v := .sc (.string x2)) rfl rfl cl111 (ww_markText v0_1 x2 q3) rfl (.cons (.free rfl) .nil) trivial memNil .nil memNil rfl trivial memNil rfl rfl rfl rfl rfl rfl ?_
   refine bnd1_elim h fun x4 q5 h => ?_
   have q5a := (idx_some q5).1; have q5b := (idx_some q5).2
   refine s_indexZ rfl rfl rfl rfl sl30 rfl q5a (get_lt q5b) rfl rfl rfl ?_
   refine s_fieldAddr rfl rfl fd60_0 rfl rfl rfl rfl ?_
   refine s_storeL (x' := Rec.mk x2 x4.ty x4.ttl x4.n x4.host x4.text) rfl rfl rfl q5b ty9 rfl rfl rfl rfl rfl rfl ?_
   refine rt_nil ?_
   refine tri_sr ?_
   refine m1 ?_
   refine grd_elim h fun g6 h => ?_
   refine s_addI rfl rfl rfl rfl g6 rfl rfl rfl ?_
   refine m2 ?_
   refine rt_nil ?_
   refine tri_sr ?_
   refine m1 ?_
   refine m1 ?_
   refine m1 ?_
   refine s_indexZ rfl rfl rfl rfl sl30 rfl q5a (by have q := get_lt q5b; simpa only [List.length_set] using q) rfl rfl rfl ?_
   refine s_fieldAddr rfl rfl fd60_1 rfl rfl rfl rfl ?_
   refine s_storeL (x' := Rec.mk x2 (v0_1 + 1) x4.ttl x4.n x4.host x4.text) rfl rfl rfl (get_set q5b) ty3 rfl rfl rfl rfl rfl rfl ?_
   refine rt_nil ?_
   refine tri_sr ?_
   refine m1 ?_
   refine grd_elim h fun g7 h => ?_
   refine s_addI rfl rfl rfl rfl g7 rfl rfl rfl ?_
   refine m2 ?_
   refine rt_nil ?_
   refine tri_sr ?_
   refine m1 ?_
   refine m1 ?_
   refine m1 ?_
   refine s_indexZ rfl rfl rfl rfl sl30 rfl q5a (by have q := get_lt q5b; simpa only [List.length_set] using q) rfl rfl rfl ?_
   refine s_fieldAddr rfl rfl fd60_2 rfl rfl rfl rfl ?_
   refine s_storeL (x' := Rec.mk x2 (v0_1 + 1) ((v0_1 + 1) + 1) x4.n x4.host x4.text) rfl rfl rfl (get_set (get_set q5b)) ty3 rfl rfl rfl rfl rfl rfl ?_
   refine rt_nil ?_
   refine tri_sr ?_
   refine m1 ?_
   refine grd_elim h fun g8 h => ?_
   refine s_addI rfl rfl rfl rfl g8 rfl rfl rfl ?_
   refine m2 ?_
   refine rt_nil ?_
   refine tri_sr ?_
   refine m1 ?_
   refine m1 ?_
   refine m1 ?_
   refine s_indexZ rfl rfl rfl rfl sl30 rfl q5a (by have q := get_lt q5b; simpa only [List.length_set] using q) rfl rfl rfl ?_
   refine s_fieldAddr rfl rfl fd60_3 rfl rfl rfl rfl ?_
   refine s_storeL (x' := Rec.mk x2 (v0_1 + 1) ((v0_1 + 1) + 1) (((v0_1 + 1) + 1) + 1) x4.host x4.text) rfl rfl rfl (get_set (get_set (get_set q5b))) ty3 rfl rfl rfl rfl rfl rfl ?_
   refine rt_nil ?_
   refine tri_sr ?_
   refine m1 ?_
   refine grd_elim h fun g9 h => ?_
   refine s_addI rfl rfl rfl rfl g9 rfl rfl rfl ?_
   refine m2 ?_
   refine rt_nil ?_
   refine tri_sr ?_
   refine m1 ?_
   refine m1 ?_
   refine m1 ?_
   refine bnd1_elim h fun x10 q11 h => ?_
   refine s_callN (kb := []) (ns := []) (v := .sc (.string x10)) rfl rfl cl111 (ww_markText ((((v0_1 + 1) + 1) + 1) + 1) x10 q11) rfl (.cons (.free rfl) .nil) trivial memNil .nil memNil rfl trivial memNil rfl rfl rfl rfl rfl rfl ?_
   refine s_indexZ rfl rfl rfl rfl sl30 rfl q5a (by have q := get_lt q5b; simpa only [List.length_set] using q) rfl rfl rfl ?_
   refine s_fieldAddr rfl rfl fd60_4 rfl rfl rfl rfl ?_
   refine s_storeL (x' := Rec.mk x2 (v0_1 + 1) ((v0_1 + 1) + 1) (((v0_1 + 1) + 1) + 1) x10 x4.text) rfl rfl rfl (get_set (get_set (get_set (get_set q5b)))) ty9 rfl rfl rfl rfl rfl rfl ?_
   refine rt_nil ?_
   refine tri_sr ?_
   refine m1 ?_
   refine grd_elim h fun g12 h => ?_
   refine s_addI rfl rfl rfl rfl g12 rfl rfl rfl ?_
   refine m2 ?_
   refine rt_nil ?_
   refine tri_sr ?_
   refine m1 ?_
   refine m1 ?_
   refine m1 ?_
   refine bnd1_elim h fun x13 q14 h => ?_
   refine s_callN (kb := []) (ns := []) (v := .sc (.string x13)) rfl rfl cl111 (ww_markText (((((v0_1 + 1) + 1) + 1) + 1) + 1) x13 q14) rfl (.cons (.free rfl) .nil) trivial memNil .nil memNil rfl trivial memNil rfl rfl rfl rfl rfl rfl ?_
   refine s_indexZ rfl rfl rfl rfl sl30 rfl q5a (by have q := get_lt q5b; simpa only [List.length_set] using q) rfl rfl rfl ?_
   refine s_fieldAddr rfl rfl fd60_5 rfl rfl rfl rfl ?_
   refine s_storeL (x' := Rec.mk x2 (v0_1 + 1) ((v0_1 + 1) + 1) (((v0_1 + 1) + 1) + 1) x10 x13) rfl rfl rfl (get_set (get_set (get_set (get_set (get_set q5b))))) ty9 rfl rfl rfl rfl rfl rfl ?_
   refine rt_nil ?_
   refine tri_region ?_
   refine m1 ?_
   refine grd_elim h fun g15 h => ?_
   refine s_addI rfl rfl rfl rfl g15 rfl rfl rfl ?_
   refine m2 ?_
   refine rt_nil ?_
   refine tri_region ?_
   refine m1 ?_
   refine grd_elim h fun g16 h => ?_
   refine s_addI rfl rfl rfl rfl g16 rfl rfl rfl ?_
   refine m2 ?_
   refine rt_nil ?_
   refine Exists.intro ⟨(f0, (((((v0_0.set v0_2.toNat (Rec.mk x2 x4.ty x4.ttl x4.n x4.host x4.text)).set v0_2.toNat (Rec.mk x2 (v0_1 + 1) x4.ttl x4.n x4.host x4.text)).set v0_2.toNat (Rec.mk x2 (v0_1 + 1) ((v0_1 + 1) + 1) x4.n x4.host x4.text)).set v0_2.toNat (Rec.mk x2 (v0_1 + 1) ((v0_1 + 1) + 1) (((v0_1 + 1) + 1) + 1) x4.host x4.text)).set v0_2.toNat (Rec.mk x2 (v0_1 + 1) ((v0_1 + 1) + 1) (((v0_1 + 1) + 1) + 1) x10 x4.text)).set v0_2.toNat (Rec.mk x2 (v0_1 + 1) ((v0_1 + 1) + 1) (((v0_1 + 1) + 1) + 1) x10 x13), (((((v0_1 + 1) + 1) + 1) + 1) + 1) + 1, v0_2 + 1), h⟩ (And.intro (Nat.lt_succ_self _) ?_)
   refine entX [((1000, 0), ⟨60, 6, List.map recV ((((((v0_0.set v0_2.toNat (Rec.mk x2 x4.ty x4.ttl x4.n x4.host x4.text)).set v0_2.toNat (Rec.mk x2 (v0_1 + 1) x4.ttl x4.n x4.host x4.text)).set v0_2.toNat (Rec.mk x2 (v0_1 + 1) ((v0_1 + 1) + 1) x4.n x4.host x4.text)).set v0_2.toNat (Rec.mk x2 (v0_1 + 1) ((v0_1 + 1) + 1) (((v0_1 + 1) + 1) + 1) x4.host x4.text)).set v0_2.toNat (Rec.mk x2 (v0_1 + 1) ((v0_1 + 1) + 1) (((v0_1 + 1) + 1) + 1) x10 x4.text)).set v0_2.toNat (Rec.mk x2 (v0_1 + 1) ((v0_1 + 1) + 1) (((v0_1 + 1) + 1) + 1) x10 x13)), false, false⟩, some (1000, 0))] [] ⟨⟨rfl, _, rfl, rfl, rfl, rfl, id, rowsCv_eq rfl (allFree_map recV_free), rowsZ_map recV_len⟩, trivial⟩ trivial rfl rfl ?_
   exact ⟨(cvRefLen rfl (by simp only [List.length_set])), (.free rfl), (.free rfl), trivial⟩
  ·replace h := cond_f h c1
   refine tri_exit ?_
   refine tri_sr ?_
   refine m1 ?_
   refine m2 ?_
   refine rt_nil ?_
   refine tri_ret ?_
   have e0 := (some2 h).1; have e1 := (some2 h).2; subst e0; subst e1
   exact endY [((1000, 0), ⟨60, 6, List.map recV v0_0, false, false⟩, some (1000, 0))] [] (rvC (resTmp rfl) rvN) ⟨⟨rfl, _, rfl, rfl, rfl, rfl, id, rowsCv_eq rfl (allFree_map recV_free), rowsZ_map recV_len⟩, trivial⟩ trivial rfl rfl (by kernel_rfl) rfl (.free rfl)

/- laws.markEntryS -/

def invR_w_markEntryS_0 (v0_0 : List MEntry) (v0_1 : Int) (v0_2 : Int) : St := mkT 58 [(0, .ref (1000, 0) 0 v0_0.length), (1, .sc (.int .i64 v0_1)), (5, .sc (.int .i64 v0_2))] (((1000, 0), some ⟨32, 6, nr 1000 mEntryN 1 v0_0, false, false⟩) :: (fam 1000 1 (List.map mEntryP v0_0) ++ []))
set_option maxRecDepth 4000 in
set_option maxHeartbeats 1600000 in
theorem wRw_markEntryS (p0 : List MEntry) (p1 : Int) (r0 : Int) (r1 : List MEntry) (h : w_markEntryS p0 p1 = some (r0, r1)) : RunsG Tryd.prog 82 [.ref (1000, 0) 0 p0.length, .sc (.int .i64 p1)] ([⟨32, 6, nr 1000 mEntryN 1 p0, false, false⟩] ++ List.map mEntryP p0) (.sc (.int .i64 r0)) [] ([⟨32, 6, nr 1000 mEntryN 1 r1, false, false⟩] ++ List.map mEntryP r1) := by
 unfold w_markEntryS at h
 have hlen := w_markEntryS_len _ _ _ _ _ _ h
 refine runsG [.tmp 4] Tryd.func82 rfl rfl rfl (by simp only [List.length_append, List.length_map, hlen]; rfl) ?_
 rw [Tryd.ntmps82, outsL_one]
 refine tri_sr ?_
 refine s_mv (.inr rfl) (v := .sc (.int .i64 0)) rfl rfl rfl rfl ?_
 refine rt_nil ?_
 refine tri_seq ?_
 refine tri_sr ?_
 refine s_mv (.inr rfl) (v := .sc (.int .i64 0)) rfl rfl rfl rfl ?_
 refine rt_nil ?_
 refine tri_block ?_
 refine tri_loop (ι := { p : Nat × (List MEntry) × Int × Int // w_markEntryS_l0 p.1 p.2.1 p.2.2.1 p.2.2.2 = some (r0, r1) }) (fun p => invR_w_markEntryS_0 p.1.2.1 p.1.2.2.1 p.1.2.2.2) (fun p => p.1.1) ⟨(fuel0, p0, p1, 0), h⟩ ?_ ?_
 ·skip
  refine nest_mark rfl rfl (fun j y hy => lkTo rfl (fam_lk (by rw [List.getElem?_map, hy]; rfl))) mEntryN_z (fun x h => mEntryN_cv x h) mEntryP_f mEntryP_z (only_lit (by decide) (by have := only_fam (b := 1) (Es := List.map mEntryP p0); rw [List.length_map] at this; exact this)) ?_
  exact ⟨(.ref rfl), (.free rfl), (.free rfl), trivial⟩
 ·rintro ⟨⟨f0, v0_0, v0_1, v0_2⟩, h⟩
  replace h : w_markEntryS_l0 f0 v0_0 v0_1 v0_2 = some (r0, r1) := h
  cases f0 with
  | zero => cases h
  | succ f0 =>
  rw [w_markEntryS_l0] at h
  show Tri _ _ _ (invR_w_markEntryS_0 v0_0 v0_1 v0_2)
  refine tri_seq ?_
  refine tri_sr ?_
  refine m1 ?_
  refine m1 ?_
  refine s_len (m := v0_0.length) rfl sl41 rfl rfl rfl rfl ?_
  refine s_of (st_lss rfl rfl rfl) rfl rfl rfl rfl ?_
  refine rt_nil ?_
  refine tri_cond rfl (fun c1 => ?_) (fun c1 => ?_)
  ·replace h := cond_t h c1
   refine tri_skip ?_
   refine tri_seq ?_
   refine tri_block ?_
   refine tri_sr ?_
   refine m1 ?_
   refine m1 ?_
   refine m1 ?_
   refine bnd1_elim h fun x2 q3 h => ?_
   refine s_callN (kb := []) (ns := []) (v := .sc (.string x2)) rfl rfl cl111 (ww_markText v0_1 x2 q3) rfl (.cons (.free rfl) .nil) trivial memNil .nil memNil rfl trivial memNil rfl rfl rfl rfl rfl rfl ?_
   refine bnd1_elim h fun x4 q5 h => ?_
   have q5a := (idx_some q5).1; have q5b := (idx_some q5).2
   refine s_indexZ rfl rfl rfl rfl sl41 rfl q5a (get_lt q5b) rfl rfl rfl ?_
   refine s_fieldAddr rfl rfl fd32_0 rfl rfl rfl rfl ?_
   refine s_fieldAddr rfl rfl fd29_0 rfl rfl rfl rfl ?_
   refine s_store (rows' := (nr 1000 mEntryN 1 v0_0).set v0_2.toNat [.sc (.string x2), .sc (.int .i64 x4.q.ty), .sc (.int .i64 x4.kind), .ref (1000, v0_2.toNat + 1) 0 x4.l.length, .sc (.int .i64 x4.rank), .sc (.int .i64 x4.til)]) rfl rfl rfl (nr_get q5b) ty9 rfl rfl rfl rfl rfl rfl ?_
   refine rt_nil ?_
   refine tri_sr ?_
   refine m1 ?_
   refine grd_elim h fun g6 h => ?_
   refine s_addI rfl rfl rfl rfl g6 rfl rfl rfl ?_
   refine m2 ?_
   refine rt_nil ?_
   refine tri_sr ?_
   refine m1 ?_
   refine m1 ?_
   refine m1 ?_
   refine s_indexZ rfl rfl rfl rfl sl41 rfl q5a (get_lt q5b) rfl rfl rfl ?_
   refine s_fieldAddr rfl rfl fd32_0 rfl rfl rfl rfl ?_
   refine s_fieldAddr rfl rfl fd29_1 rfl rfl rfl rfl ?_
   refine s_store (rows' := ((nr 1000 mEntryN 1 v0_0).set v0_2.toNat [.sc (.string x2), .sc (.int .i64 x4.q.ty), .sc (.int .i64 x4.kind), .ref (1000, v0_2.toNat + 1) 0 x4.l.length, .sc (.int .i64 x4.rank), .sc (.int .i64 x4.til)]).set v0_2.toNat [.sc (.string x2), .sc (.int .i64 (v0_1 + 1)), .sc (.int .i64 x4.kind), .ref (1000, v0_2.toNat + 1) 0 x4.l.length, .sc (.int .i64 x4.rank), .sc (.int .i64 x4.til)]) rfl rfl rfl (get_set (nr_get q5b)) ty3 rfl rfl rfl rfl rfl rfl ?_
   refine rt_nil ?_
   refine tri_sr ?_
   refine m1 ?_
   refine grd_elim h fun g7 h => ?_
   refine s_addI rfl rfl rfl rfl g7 rfl rfl rfl ?_
   refine m2 ?_
   refine rt_nil ?_
   refine tri_sr ?_
   refine m1 ?_
   refine m1 ?_
   refine m1 ?_
   refine s_indexZ rfl rfl rfl rfl sl41 rfl q5a (get_lt q5b) rfl rfl rfl ?_
   refine s_fieldAddr rfl rfl fd32_1 rfl rfl rfl rfl ?_
   refine s_store (rows' := (((nr 1000 mEntryN 1 v0_0).set v0_2.toNat [.sc (.string x2), .sc (.int .i64 x4.q.ty), .sc (.int .i64 x4.kind), .ref (1000, v0_2.toNat + 1) 0 x4.l.length, .sc (.int .i64 x4.rank), .sc (.int .i64 x4.til)]).set v0_2.toNat [.sc (.string x2), .sc (.int .i64 (v0_1 + 1)), .sc (.int .i64 x4.kind), .ref (1000, v0_2.toNat + 1) 0 x4.l.length, .sc (.int .i64 x4.rank), .sc (.int .i64 x4.til)]).set v0_2.toNat [.sc (.string x2), .sc (.int .i64 (v0_1 + 1)), .sc (.int .i64 (v0_1 + 1 + 1)), .ref (1000, v0_2.toNat + 1) 0 x4.l.length, .sc (.int .i64 x4.rank), .sc (.int .i64 x4.til)]) rfl rfl rfl (get_set (get_set (nr_get q5b))) ty3 rfl rfl rfl rfl rfl rfl ?_
   refine rt_nil ?_
   refine tri_sr ?_
   refine m1 ?_
   refine grd_elim h fun g8 h => ?_
   refine s_addI rfl rfl rfl rfl g8 rfl rfl rfl ?_
   refine m2 ?_
   refine rt_nil ?_
   refine tri_sr ?_
   refine m1 ?_
   refine m1 ?_
   refine s_indexZ rfl rfl rfl rfl sl41 rfl q5a (get_lt q5b) rfl rfl rfl ?_
   refine s_fieldAddr rfl rfl fd32_2 rfl rfl rfl rfl ?_
   refine s_load rfl rfl rfl (get_set (get_set (get_set (nr_get q5b)))) ty30 rfl (.inr rfl) (by conv => lhs; whnf) rfl rfl rfl ?_
   refine m1 ?_
   refine bnd2_elim h fun x5 x6 q7 h => ?_
   refine grd_elim h fun gl h => ?_
   have hm : (List.map mEntryP v0_0)[v0_2.toNat]? = some (mEntryP x4) := by rw [List.getElem?_map, q5b]; rfl
   refine s_callN (kb := []) (ns := [(1000, v0_2.toNat + 1)]) (v := .sc (.int .i64 x5)) rfl rfl cl83 (ww_markRecordS x4.l (v0_1 + 1 + 1 + 1) x5 x6 q7) rfl (.cons (.refOwn rfl) (.cons (.free rfl) .nil)) ⟨⟨mEntryP x4, lkTo rfl (lkTo rfl (lkTo rfl (lkTo rfl (fam_lk hm)))), rfl⟩, trivial⟩ (memCons (allFree_map recV_free) memNil) (List.nodup_cons.2 ⟨List.not_mem_nil, .nil⟩) memNil rfl trivial (memCons (allSc_map recV_sc) memNil) rfl rfl (congrArg (fun b => ((1000, v0_2.toNat + 1), some (⟨60, 6, List.map recV x6, false, b⟩ : Entry)) :: _) (mine_of (lkTo rfl (lkTo rfl (lkTo rfl (lkTo rfl (fam_lk hm))))))) rfl rfl rfl ?_
   refine m2 ?_
   refine rt_nil ?_
   refine tri_sr ?_
   refine m1 ?_
   refine m1 ?_
   refine m1 ?_
   refine s_indexZ rfl rfl rfl rfl sl41 rfl q5a (get_lt q5b) rfl rfl rfl ?_
   refine s_fieldAddr rfl rfl fd32_3 rfl rfl rfl rfl ?_
   refine s_store (rows' := ((((nr 1000 mEntryN 1 v0_0).set v0_2.toNat [.sc (.string x2), .sc (.int .i64 x4.q.ty), .sc (.int .i64 x4.kind), .ref (1000, v0_2.toNat + 1) 0 x4.l.length, .sc (.int .i64 x4.rank), .sc (.int .i64 x4.til)]).set v0_2.toNat [.sc (.string x2), .sc (.int .i64 (v0_1 + 1)), .sc (.int .i64 x4.kind), .ref (1000, v0_2.toNat + 1) 0 x4.l.length, .sc (.int .i64 x4.rank), .sc (.int .i64 x4.til)]).set v0_2.toNat [.sc (.string x2), .sc (.int .i64 (v0_1 + 1)), .sc (.int .i64 (v0_1 + 1 + 1)), .ref (1000, v0_2.toNat + 1) 0 x4.l.length, .sc (.int .i64 x4.rank), .sc (.int .i64 x4.til)]).set v0_2.toNat [.sc (.string x2), .sc (.int .i64 (v0_1 + 1)), .sc (.int .i64 (v0_1 + 1 + 1)), .ref (1000, v0_2.toNat + 1) 0 x4.l.length, .sc (.int .i64 x5), .sc (.int .i64 x4.til)]) rfl rfl rfl (get_set (get_set (get_set (nr_get q5b)))) ty3 rfl rfl rfl rfl rfl rfl ?_
   refine rt_nil ?_
   refine tri_sr ?_
   refine m1 ?_
   refine grd_elim h fun g9 h => ?_
   refine s_addI rfl rfl rfl rfl g9 rfl rfl rfl ?_
   refine m2 ?_
   refine rt_nil ?_
   refine tri_sr ?_
   refine m1 ?_
   refine m1 ?_
   refine m1 ?_
   refine s_indexZ rfl rfl rfl rfl sl41 rfl q5a (get_lt q5b) rfl rfl rfl ?_
   refine s_fieldAddr rfl rfl fd32_4 rfl rfl rfl rfl ?_
   refine s_store (rows' := (((((nr 1000 mEntryN 1 v0_0).set v0_2.toNat [.sc (.string x2), .sc (.int .i64 x4.q.ty), .sc (.int .i64 x4.kind), .ref (1000, v0_2.toNat + 1) 0 x4.l.length, .sc (.int .i64 x4.rank), .sc (.int .i64 x4.til)]).set v0_2.toNat [.sc (.string x2), .sc (.int .i64 (v0_1 + 1)), .sc (.int .i64 x4.kind), .ref (1000, v0_2.toNat + 1) 0 x4.l.length, .sc (.int .i64 x4.rank), .sc (.int .i64 x4.til)]).set v0_2.toNat [.sc (.string x2), .sc (.int .i64 (v0_1 + 1)), .sc (.int .i64 (v0_1 + 1 + 1)), .ref (1000, v0_2.toNat + 1) 0 x4.l.length, .sc (.int .i64 x4.rank), .sc (.int .i64 x4.til)]).set v0_2.toNat [.sc (.string x2), .sc (.int .i64 (v0_1 + 1)), .sc (.int .i64 (v0_1 + 1 + 1)), .ref (1000, v0_2.toNat + 1) 0 x4.l.length, .sc (.int .i64 x5), .sc (.int .i64 x4.til)]).set v0_2.toNat [.sc (.string x2), .sc (.int .i64 (v0_1 + 1)), .sc (.int .i64 (v0_1 + 1 + 1)), .ref (1000, v0_2.toNat + 1) 0 x4.l.length, .sc (.int .i64 x5), .sc (.int .i64 (x5 + 1))]) rfl rfl rfl (get_set (get_set (get_set (get_set (nr_get q5b))))) ty3 rfl rfl rfl rfl rfl rfl ?_
   refine rt_nil ?_
   refine tri_region ?_
   refine m1 ?_
   refine grd_elim h fun g10 h => ?_
   refine s_addI rfl rfl rfl rfl g10 rfl rfl rfl ?_
   refine m2 ?_
   refine rt_nil ?_
   refine tri_region ?_
   refine m1 ?_
   refine grd_elim h fun g11 h => ?_
   refine s_addI rfl rfl rfl rfl g11 rfl rfl rfl ?_
   refine m2 ?_
   refine rt_nil ?_
   refine Exists.intro ⟨(f0, v0_0.set v0_2.toNat (MEntry.mk (Quest.mk x2 (v0_1 + 1)) (v0_1 + 1 + 1) x6 x5 (x5 + 1)), x5 + 1 + 1, v0_2 + 1), h⟩ (And.intro (Nat.lt_succ_self _) ?_)
   have hr : (((((nr 1000 mEntryN 1 v0_0).set v0_2.toNat [.sc (.string x2), .sc (.int .i64 x4.q.ty), .sc (.int .i64 x4.kind), .ref (1000, v0_2.toNat + 1) 0 x4.l.length, .sc (.int .i64 x4.rank), .sc (.int .i64 x4.til)]).set v0_2.toNat [.sc (.string x2), .sc (.int .i64 (v0_1 + 1)), .sc (.int .i64 x4.kind), .ref (1000, v0_2.toNat + 1) 0 x4.l.length, .sc (.int .i64 x4.rank), .sc (.int .i64 x4.til)]).set v0_2.toNat [.sc (.string x2), .sc (.int .i64 (v0_1 + 1)), .sc (.int .i64 (v0_1 + 1 + 1)), .ref (1000, v0_2.toNat + 1) 0 x4.l.length, .sc (.int .i64 x4.rank), .sc (.int .i64 x4.til)]).set v0_2.toNat [.sc (.string x2), .sc (.int .i64 (v0_1 + 1)), .sc (.int .i64 (v0_1 + 1 + 1)), .ref (1000, v0_2.toNat + 1) 0 x4.l.length, .sc (.int .i64 x5), .sc (.int .i64 x4.til)]).set v0_2.toNat [.sc (.string x2), .sc (.int .i64 (v0_1 + 1)), .sc (.int .i64 (v0_1 + 1 + 1)), .ref (1000, v0_2.toNat + 1) 0 x4.l.length, .sc (.int .i64 x5), .sc (.int .i64 (x5 + 1))] = nr 1000 mEntryN 1 (v0_0.set v0_2.toNat (MEntry.mk (Quest.mk x2 (v0_1 + 1)) (v0_1 + 1 + 1) x6 x5 (x5 + 1))) := by
    simp only [List.set_set]; exact nr_set (by rw [← gl]; rfl)
   refine nest_mark rfl hr (fun j y hy => ?_) mEntryN_z (fun x h => mEntryN_cv x h) mEntryP_f mEntryP_z (by rw [List.length_set]; exact (only_lit (by decide) (only_lit (by decide) (only_mem (get_lt q5b) (only_lit (by decide) (only_lit (by decide) (only_lit (by decide) (only_lit (by decide) (by have := only_fam (b := 1) (Es := List.map mEntryP v0_0); rw [List.length_map] at this; exact this))))))))) ?_
   ·rcases set_cases hy with ⟨rfl, rfl, hi⟩ | ⟨hji, hy⟩
    ·exact lkTo rfl (lkTo rfl lkAt)
    ·exact lkTo rfl (lkTo rfl (lkTo (nmEq_ne hji) (lkTo rfl (lkTo rfl (lkTo rfl (lkTo rfl (fam_lk (by rw [List.getElem?_map, hy]; rfl))))))))
   ·exact ⟨(cvRefLen rfl (by simp only [List.length_set])), (.free rfl), (.free rfl), trivial⟩
  ·replace h := cond_f h c1
   refine tri_exit ?_
   refine tri_sr ?_
   refine m1 ?_
   refine m2 ?_
   refine rt_nil ?_
   refine tri_ret ?_
   have e0 := (some2 h).1; have e1 := (some2 h).2; subst e0; subst e1
   exact nest_endB (b := 1) [((1000, 0), ⟨32, 6, nr 1000 mEntryN 1 v0_0, false, false⟩, some (1000, 0))] [⟨32, 6, nr 1000 mEntryN 1 v0_0, false, false⟩] (rvC (resTmp rfl) rvN) rfl ⟨⟨rfl, _, rfl, rfl, rfl, rfl, id, rowsCv_fam (fun x h => mEntryN_cv x h), nr_rowsZ mEntryN_z⟩, trivial⟩ rfl rfl (fun _ => rfl) rfl (fun j y hy => lkTo rfl (fam_lk (by rw [List.getElem?_map, hy]; rfl))) mEntryP_f mEntryP_z (only_lit (by decide) (by have := only_fam (b := 1) (Es := List.map mEntryP v0_0); rw [List.length_map] at this; exact this)) (fun j hj => by cases (Nat.lt_one_iff.1 hj : j = 0); rfl) rfl rfl

/- laws.markCache -/

set_option maxRecDepth 4000 in
set_option maxHeartbeats 800000 in
theorem wRw_markCache (p0 : MCache) (p1 : Int) (r0 : Int) (r1 : List MEntry) (h : w_markCache p0 p1 = some (r0, r1)) : RunsG Tryd.prog 36 [.agg [.sc (.int .i64 p0.cap), .ref (1000, 0) 0 p0.l.length], .sc (.int .i64 p1)] ([⟨32, 6, nr 1000 mEntryN 1 p0.l, false, false⟩] ++ List.map mEntryP p0.l) (.sc (.int .i64 r0)) [] ([⟨32, 6, nr 1000 mEntryN 1 r1, false, false⟩] ++ List.map mEntryP r1) := by
 unfold w_markCache at h
 refine bnd2_elim h fun x1 x2 q3 h => ?_
 refine grd_elim h fun g4 h => ?_
 have e0 := (some2 h).1; have e1 := (some2 h).2; subst e0; subst e1
 refine runsG [.tmp 4] Tryd.func36 rfl rfl rfl (by simp only [List.length_append, List.length_map, g4]; rfl) ?_
 rw [Tryd.ntmps36, outsL_one]
 refine tri_sr ?_
 refine s_box rfl rfl (lkNo rfl (famNo rfl rfl)) rfl rfl rfl rfl ?_
 refine s_mv (.inr rfl) (v := .sc (.int .i64 0)) rfl rfl rfl rfl ?_
 refine rt_nil ?_
 refine tri_sr ?_
 refine s_fieldAddr rfl rfl fd43_1 rfl rfl rfl rfl ?_
 refine s_load rfl rfl rfl rfl ty41 rfl (.inr rfl) (by conv => lhs; whnf) rfl rfl rfl ?_
 refine m1 ?_
 refine s_callMn (A := [((2, 0), some ⟨43, 2, [[.sc (.int .i64 p0.cap), .ref (1000, 0) 0 p0.l.length]], false, true⟩), ((1000, 0), some ⟨32, 6, nr 1000 mEntryN 1 p0.l, false, false⟩)]) (l := p0.l) (l' := x2) (gm := mEntryP) (fN := mEntryN) (dn := (1000, 0)) (a := 1000) (b := 1) (s := false) (mi := false) rfl rfl cl82 (wRw_markEntryS p0.l p1 x1 x2 q3) g4 rfl (.cons (.refOwn rfl) (.cons (.free rfl) .nil)) rfl (fun j => rfl) (fun k => rfl) mEntryN_z (fun x hm => .cons (.free rfl) (.cons (.free rfl) (.cons (.free rfl) (.cons (.refOwn hm) (.cons (.free rfl) (.cons (.free rfl) .nil)))))) (fun x hm => .cons retSc (.cons retSc (.cons retSc (.cons (.inn hm) (.cons retSc (.cons retSc .nil)))))) (fun x => allSc_map recV_sc) mEntryP_f mEntryP_z (fun _ _ => rfl) rfl rfl rfl rfl ?_
 refine m2 ?_
 refine rt_nil ?_
 refine tri_sr ?_
 refine m1 ?_
 refine m2 ?_
 refine rt_nil ?_
 refine tri_ret ?_
 exact nest_endB (b := 1) (l := x2) (g := mEntryP) [((1000, 0), ⟨32, 6, nr 1000 mEntryN 1 x2, false, false⟩, some (1000, 0))] [⟨32, 6, nr 1000 mEntryN 1 x2, false, false⟩] (rvC (resTmp rfl) rvN) rfl ⟨⟨rfl, _, rfl, rfl, rfl, rfl, id, rowsCv_fam (fun x h => mEntryN_cv x h), nr_rowsZ mEntryN_z⟩, trivial⟩ rfl rfl (fun _ => rfl) rfl (fun j y hy => by repeat (first | exact fam_lk (by rw [List.getElem?_map, hy]; rfl) | refine lkTo rfl ?_)) mEntryP_f mEntryP_z (only_lit (by decide) (only_oth rfl (only_lit (by decide) (by have := only_fam (b := 1) (Es := List.map mEntryP x2); rw [List.length_map] at this; exact this)))) (fun j hj => by cases (Nat.lt_one_iff.1 hj : j = 0); rfl) rfl rfl

/- laws.markEntry -/

set_option maxRecDepth 4000 in
set_option maxHeartbeats 800000 in
theorem ww_markEntry (p0 : MEntry) (p1 : Int) (r0 : Int) (r1 : List Rec) (h : w_markEntry p0 p1 = some (r0, r1)) : Runs Tryd.prog 37 [.agg [.sc (.string p0.q.name), .sc (.int .i64 p0.q.ty), .sc (.int .i64 p0.kind), .ref (1000, 0) 0 p0.l.length, .sc (.int .i64 p0.rank), .sc (.int .i64 p0.til)], .sc (.int .i64 p1)] [⟨60, 6, List.map recV p0.l, false, false⟩] (.sc (.int .i64 r0)) [⟨60, 6, List.map recV r1, false, false⟩] := by
 unfold w_markEntry at h
 refine runsR [.tmp 4] Tryd.func37 rfl rfl rfl rfl ?_
 rw [Tryd.ntmps37]
 refine tri_sr ?_
 refine s_box rfl rfl rfl rfl rfl rfl rfl ?_
 refine s_mv (.inr rfl) (v := .sc (.int .i64 0)) rfl rfl rfl rfl ?_
 refine rt_nil ?_
 refine tri_sr ?_
 refine s_fieldAddr rfl rfl fd32_2 rfl rfl rfl rfl ?_
 refine s_load rfl rfl rfl rfl ty30 rfl (.inr rfl) (by conv => lhs; whnf) rfl rfl rfl ?_
 refine m1 ?_
 refine bnd2_elim h fun x1 x2 q3 h => ?_
 refine grd_elim h fun g4 h => ?_
 refine s_callN (kb := []) (ns := [(1000, 0)]) (v := .sc (.int .i64 x1)) rfl rfl cl83 (ww_markRecordS p0.l p1 x1 x2 q3) rfl (.cons (.refOwn rfl) (.cons (.free rfl) .nil)) ⟨⟨_, rfl, rfl⟩, trivial⟩ (memCons (allFree_map recV_free) memNil) (List.nodup_cons.2 ⟨List.not_mem_nil, .nil⟩) memNil rfl trivial (memCons (allSc_map recV_sc) memNil) rfl rfl rfl rfl rfl rfl ?_
 refine m2 ?_
 refine rt_nil ?_
 refine tri_sr ?_
 refine m1 ?_
 refine m2 ?_
 refine rt_nil ?_
 refine tri_ret ?_
 have e0 := (some2 h).1; have e1 := (some2 h).2; subst e0; subst e1
 exact endY [((1000, 0), ⟨60, 6, List.map recV x2, false, false⟩, some (1000, 0))] [] (rvC (resTmp rfl) rvN) ⟨⟨rfl, _, rfl, rfl, rfl, rfl, id, rowsCv_eq rfl (allFree_map recV_free), rowsZ_map recV_len⟩, trivial⟩ trivial rfl rfl (by kernel_rfl) rfl (.free rfl)

/- laws.heldRecordS -/
def inv_w_heldRecordS_0 (p0 : List Rec) (v0_0 : Int) (v0_1 : Nat) : St := mkT 70 [(0, .lst 6 (List.map recV p0)), (1, .sc (.int .i64 v0_0)), (5, .sc (.int .i64 (v0_1 : Int)))] []
set_option maxRecDepth 4000 in
set_option maxHeartbeats 800000 in
theorem ww_heldRecordS (p0 : List Rec) (p1 : Int) (r0 : Int) (h : w_heldRecordS p0 p1 = some r0) : Runs Tryd.prog 112 [.lst 6 (List.map recV p0), .sc (.int .i64 p1)] [] (.sc (.int .i64 r0)) [] := by
 unfold w_heldRecordS at h
 refine runsR [.tmp 4] Tryd.func112 rfl rfl rfl rfl ?_
 rw [Tryd.ntmps112]
 refine tri_sr ?_
 refine s_mv (.inr rfl) (v := .sc (.int .i64 0)) rfl rfl rfl rfl ?_
 refine rt_nil ?_
 refine tri_seq ?_
 refine tri_sr ?_
 refine s_mv (.inr rfl) (v := .sc (.int .i64 0)) rfl rfl rfl rfl ?_
 refine rt_nil ?_
 refine tri_block ?_
 refine tri_lstM 0 rfl (fun hl0 => ?_)
 refine tri_loop (ι := { p : (List Rec) × Int × Nat // p0.drop p.2.2 = p.1 ∧ w_heldRecordS_l0 p.1 p.2.1 p.2.2 = some r0 }) (fun p => inv_w_heldRecordS_0 p0 p.1.2.1 p.1.2.2) (fun p => p.1.1.length) ⟨(p0, p1, 0), rfl, h⟩ ?_ ?_
 ·skip
  refine entX [] [] trivial trivial rfl rfl ?_
  exact ⟨(.free rfl), (.free rfl), (.free rfl), trivial⟩
 ·rintro ⟨⟨lrs0, v0_0, v0_1⟩, hd0, h⟩
  replace hd0 : p0.drop v0_1 = lrs0 := hd0
  replace h : w_heldRecordS_l0 lrs0 v0_0 v0_1 = some r0 := h
  show Tri _ _ _ (inv_w_heldRecordS_0 p0 v0_0 v0_1)
  refine tri_seq ?_
  refine tri_sr ?_
  refine m1 ?_
  refine m1 ?_
  refine s_lenL rfl sl30 rfl rfl rfl rfl ?_
  refine s_of (st_lss rfl rfl rfl) rfl rfl rfl rfl ?_
  refine rt_nil ?_
  refine tri_cond rfl (fun c1 => ?_) (fun c1 => ?_)
  ·refine drop_elim hd0 c1 fun e0 rs0 he hx0 hn0 => ?_
   subst he
   rw [w_heldRecordS_l0] at h
   refine tri_skip ?_
   refine tri_seq ?_
   refine tri_block ?_
   refine tri_seq ?_
   refine tri_seq ?_
   refine tri_draw mixed ?_
   refine m1 ?_
   refine m1 ?_
   refine s_indexF (i := v0_1) rfl rfl rfl sl30 (get_ltM hx0) rfl rfl rfl ?_
   refine s_fieldAddrF rfl rfl fd60_0 rfl rfl rfl rfl ?_
   refine s_loadF rfl rfl (rowG hx0) ty9 rfl (.inr rfl) (by conv => lhs; whnf) rfl rfl rfl ?_
   refine m1 ?_
   refine bnd1_elim h fun x2 q3 h => ?_
   refine s_callN (kb := []) (ns := []) (v := .sc (.string x2)) rfl rfl cl111 (ww_markText v0_0 x2 q3) rfl (.cons (.free rfl) .nil) trivial memNil .nil memNil rfl trivial memNil rfl rfl rfl rfl rfl rfl ?_
   refine s_of (st_neS rfl rfl rfl) rfl rfl rfl rfl ?_
   refine rt_nil ⟨by kernel_rfl, ?_⟩
   refine tri_cond rfl (fun c4 => ?_) (fun c4 => ?_)
   ·replace h := cond_t h c4
    refine tri_sr ?_
    refine s_mv (.inr rfl) (v := .sc (.int .i64 (-1))) rfl rfl rfl rfl ?_
    refine rt_nil ?_
    refine tri_ret ?_
    have e0 := (some1 h); subst e0
    exact endY [] [] (rvC (resTmp rfl) rvN) trivial trivial rfl rfl rfl rfl (.free rfl)
   ·replace h := cond_f h c4
    refine tri_skip ?_
    refine tri_sr ?_
    refine m1 ?_
    refine grd_elim h fun g5 h => ?_
    refine s_addI rfl rfl rfl rfl g5 rfl rfl rfl ?_
    refine m2 ?_
    refine rt_nil ?_
    refine tri_seq ?_
    refine tri_sr ?_
    refine m1 ?_
    refine m1 ?_
    refine s_indexF (i := v0_1) rfl rfl rfl sl30 (get_ltM hx0) rfl rfl rfl ?_
    refine s_fieldAddrF rfl rfl fd60_1 rfl rfl rfl rfl ?_
    refine s_loadF rfl rfl (rowG hx0) ty3 rfl (.inr rfl) (by conv => lhs; whnf) rfl rfl rfl ?_
    refine m1 ?_
    refine s_of (st_neI rfl rfl rfl) rfl rfl rfl rfl ?_
    refine rt_nil ?_
    refine tri_cond rfl (fun c6 => ?_) (fun c6 => ?_)
    ·replace h := cond_t h c6
     refine tri_sr ?_
     refine s_mv (.inr rfl) (v := .sc (.int .i64 (-1))) rfl rfl rfl rfl ?_
     refine rt_nil ?_
     refine tri_ret ?_
     have e0 := (some1 h); subst e0
     exact endY [] [] (rvC (resTmp rfl) rvN) trivial trivial rfl rfl rfl rfl (.free rfl)
    ·replace h := cond_f h c6
     refine tri_skip ?_
     refine tri_sr ?_
     refine m1 ?_
     refine grd_elim h fun g7 h => ?_
     refine s_addI rfl rfl rfl rfl g7 rfl rfl rfl ?_
     refine m2 ?_
     refine rt_nil ?_
     refine tri_seq ?_
     refine tri_sr ?_
     refine m1 ?_
     refine m1 ?_
     refine s_indexF (i := v0_1) rfl rfl rfl sl30 (get_ltM hx0) rfl rfl rfl ?_
     refine s_fieldAddrF rfl rfl fd60_2 rfl rfl rfl rfl ?_
     refine s_loadF rfl rfl (rowG hx0) ty3 rfl (.inr rfl) (by conv => lhs; whnf) rfl rfl rfl ?_
     refine m1 ?_
     refine s_of (st_neI rfl rfl rfl) rfl rfl rfl rfl ?_
     refine rt_nil ?_
     refine tri_cond rfl (fun c8 => ?_) (fun c8 => ?_)
     ·replace h := cond_t h c8
      refine tri_sr ?_
      refine s_mv (.inr rfl) (v := .sc (.int .i64 (-1))) rfl rfl rfl rfl ?_
      refine rt_nil ?_
      refine tri_ret ?_
      have e0 := (some1 h); subst e0
      exact endY [] [] (rvC (resTmp rfl) rvN) trivial trivial rfl rfl rfl rfl (.free rfl)
     ·replace h := cond_f h c8
      refine tri_skip ?_
      refine tri_sr ?_
      refine m1 ?_
      refine grd_elim h fun g9 h => ?_
      refine s_addI rfl rfl rfl rfl g9 rfl rfl rfl ?_
      refine m2 ?_
      refine rt_nil ?_
      refine tri_seq ?_
      refine tri_sr ?_
      refine m1 ?_
      refine m1 ?_
      refine s_indexF (i := v0_1) rfl rfl rfl sl30 (get_ltM hx0) rfl rfl rfl ?_
      refine s_fieldAddrF rfl rfl fd60_3 rfl rfl rfl rfl ?_
      refine s_loadF rfl rfl (rowG hx0) ty3 rfl (.inr rfl) (by conv => lhs; whnf) rfl rfl rfl ?_
      refine m1 ?_
      refine s_of (st_neI rfl rfl rfl) rfl rfl rfl rfl ?_
      refine rt_nil ?_
      refine tri_cond rfl (fun c10 => ?_) (fun c10 => ?_)
      ·replace h := cond_t h c10
       refine tri_sr ?_
       refine s_mv (.inr rfl) (v := .sc (.int .i64 (-1))) rfl rfl rfl rfl ?_
       refine rt_nil ?_
       refine tri_ret ?_
       have e0 := (some1 h); subst e0
       exact endY [] [] (rvC (resTmp rfl) rvN) trivial trivial rfl rfl rfl rfl (.free rfl)
      ·replace h := cond_f h c10
       refine tri_skip ?_
       refine tri_sr ?_
       refine m1 ?_
       refine grd_elim h fun g11 h => ?_
       refine s_addI rfl rfl rfl rfl g11 rfl rfl rfl ?_
       refine m2 ?_
       refine rt_nil ?_
       refine tri_seq ?_
       refine tri_seq ?_
       refine tri_draw mixed ?_
       refine m1 ?_
       refine m1 ?_
       refine s_indexF (i := v0_1) rfl rfl rfl sl30 (get_ltM hx0) rfl rfl rfl ?_
       refine s_fieldAddrF rfl rfl fd60_4 rfl rfl rfl rfl ?_
       refine s_loadF rfl rfl (rowG hx0) ty9 rfl (.inr rfl) (by conv => lhs; whnf) rfl rfl rfl ?_
       refine m1 ?_
       refine bnd1_elim h fun x12 q13 h => ?_
       refine s_callN (kb := []) (ns := []) (v := .sc (.string x12)) rfl rfl cl111 (ww_markText ((((v0_0 + 1) + 1) + 1) + 1) x12 q13) rfl (.cons (.free rfl) .nil) trivial memNil .nil memNil rfl trivial memNil rfl rfl rfl rfl rfl rfl ?_
       refine s_of (st_neS rfl rfl rfl) rfl rfl rfl rfl ?_
       refine rt_nil ⟨by kernel_rfl, ?_⟩
       refine tri_cond rfl (fun c14 => ?_) (fun c14 => ?_)
       ·replace h := cond_t h c14
        refine tri_sr ?_
        refine s_mv (.inr rfl) (v := .sc (.int .i64 (-1))) rfl rfl rfl rfl ?_
        refine rt_nil ?_
        refine tri_ret ?_
        have e0 := (some1 h); subst e0
        exact endY [] [] (rvC (resTmp rfl) rvN) trivial trivial rfl rfl rfl rfl (.free rfl)
       ·replace h := cond_f h c14
        refine tri_skip ?_
        refine tri_sr ?_
        refine m1 ?_
        refine grd_elim h fun g15 h => ?_
        refine s_addI rfl rfl rfl rfl g15 rfl rfl rfl ?_
        refine m2 ?_
        refine rt_nil ?_
        refine tri_seq ?_
        refine tri_seq ?_
        refine tri_draw mixed ?_
        refine m1 ?_
        refine m1 ?_
        refine s_indexF (i := v0_1) rfl rfl rfl sl30 (get_ltM hx0) rfl rfl rfl ?_
        refine s_fieldAddrF rfl rfl fd60_5 rfl rfl rfl rfl ?_
        refine s_loadF rfl rfl (rowG hx0) ty9 rfl (.inr rfl) (by conv => lhs; whnf) rfl rfl rfl ?_
        refine m1 ?_
        refine bnd1_elim h fun x16 q17 h => ?_
        refine s_callN (kb := []) (ns := []) (v := .sc (.string x16)) rfl rfl cl111 (ww_markText (((((v0_0 + 1) + 1) + 1) + 1) + 1) x16 q17) rfl (.cons (.free rfl) .nil) trivial memNil .nil memNil rfl trivial memNil rfl rfl rfl rfl rfl rfl ?_
        refine s_of (st_neS rfl rfl rfl) rfl rfl rfl rfl ?_
        refine rt_nil ⟨by kernel_rfl, ?_⟩
        refine tri_cond rfl (fun c18 => ?_) (fun c18 => ?_)
        ·replace h := cond_t h c18
         refine tri_sr ?_
         refine s_mv (.inr rfl) (v := .sc (.int .i64 (-1))) rfl rfl rfl rfl ?_
         refine rt_nil ?_
         refine tri_ret ?_
         have e0 := (some1 h); subst e0
         exact endY [] [] (rvC (resTmp rfl) rvN) trivial trivial rfl rfl rfl rfl (.free rfl)
        ·replace h := cond_f h c18
         refine tri_skip ?_
         refine tri_region ?_
         refine m1 ?_
         refine grd_elim h fun g19 h => ?_
         refine s_addI rfl rfl rfl rfl g19 rfl rfl rfl ?_
         refine m2 ?_
         refine rt_nil ?_
         refine tri_region ?_
         refine m1 ?_
         refine s_inc (a := v0_1) (b := 1) rfl rfl rfl rfl (by have := get_lt hx0; have := hl0; omega) rfl rfl rfl ?_
         refine m2 ?_
         refine rt_nil ?_
         refine Exists.intro ⟨(rs0, (((((v0_0 + 1) + 1) + 1) + 1) + 1) + 1, (v0_1 + 1)), hn0, h⟩ (And.intro (Nat.lt_succ_self _) ?_)
         refine entX [] [] trivial trivial rfl rfl ?_
         exact ⟨(.free rfl), (.free rfl), (.free rfl), trivial⟩
  ·have he := drop_f hd0 c1; subst he
   rw [w_heldRecordS_l0] at h
   refine tri_exit ?_
   refine tri_sr ?_
   refine m1 ?_
   refine m2 ?_
   refine rt_nil ?_
   refine tri_ret ?_
   have e0 := (some1 h); subst e0
   exact endY [] [] (rvC (resTmp rfl) rvN) trivial trivial rfl rfl rfl rfl (.free rfl)

/- laws.heldEntryS -/
def inv_w_heldEntryS_0 (p0 : List MEntry) (v0_0 : Int) (v0_1 : Nat) : St := mkT 70 [(0, .lst 6 (List.map mEntryV p0)), (1, .sc (.int .i64 v0_0)), (5, .sc (.int .i64 (v0_1 : Int)))] []
set_option maxRecDepth 4000 in
set_option maxHeartbeats 800000 in
theorem ww_heldEntryS (p0 : List MEntry) (p1 : Int) (r0 : Int) (h : w_heldEntryS p0 p1 = some r0) : Runs Tryd.prog 84 [.lst 6 (List.map mEntryV p0), .sc (.int .i64 p1)] [] (.sc (.int .i64 r0)) [] := by
 unfold w_heldEntryS at h
 refine runsR [.tmp 4] Tryd.func84 rfl rfl rfl rfl ?_
 rw [Tryd.ntmps84]
 refine tri_sr ?_
 refine s_mv (.inr rfl) (v := .sc (.int .i64 0)) rfl rfl rfl rfl ?_
 refine rt_nil ?_
 refine tri_seq ?_
 refine tri_sr ?_
 refine s_mv (.inr rfl) (v := .sc (.int .i64 0)) rfl rfl rfl rfl ?_
 refine rt_nil ?_
 refine tri_block ?_
 refine tri_lstM 0 rfl (fun hl0 => ?_)
 refine tri_loop (ι := { p : (List MEntry) × Int × Nat // p0.drop p.2.2 = p.1 ∧ w_heldEntryS_l0 p.1 p.2.1 p.2.2 = some r0 }) (fun p => inv_w_heldEntryS_0 p0 p.1.2.1 p.1.2.2) (fun p => p.1.1.length) ⟨(p0, p1, 0), rfl, h⟩ ?_ ?_
 ·skip
  refine entX [] [] trivial trivial rfl rfl ?_
  exact ⟨(.free rfl), (.free rfl), (.free rfl), trivial⟩
 ·rintro ⟨⟨lrs0, v0_0, v0_1⟩, hd0, h⟩
  replace hd0 : p0.drop v0_1 = lrs0 := hd0
  replace h : w_heldEntryS_l0 lrs0 v0_0 v0_1 = some r0 := h
  show Tri _ _ _ (inv_w_heldEntryS_0 p0 v0_0 v0_1)
  refine tri_seq ?_
  refine tri_sr ?_
  refine m1 ?_
  refine m1 ?_
  refine s_lenL rfl sl41 rfl rfl rfl rfl ?_
  refine s_of (st_lss rfl rfl rfl) rfl rfl rfl rfl ?_
  refine rt_nil ?_
  refine tri_cond rfl (fun c1 => ?_) (fun c1 => ?_)
  ·refine drop_elim hd0 c1 fun e0 rs0 he hx0 hn0 => ?_
   subst he
   rw [w_heldEntryS_l0] at h
   refine tri_skip ?_
   refine tri_seq ?_
   refine tri_block ?_
   refine tri_seq ?_
   refine tri_seq ?_
   refine tri_draw mixed ?_
   refine m1 ?_
   refine m1 ?_
   refine s_indexF (i := v0_1) rfl rfl rfl sl41 (get_ltM hx0) rfl rfl rfl ?_
   refine s_fieldAddrF rfl rfl fd32_0 rfl rfl rfl rfl ?_
   refine s_fieldAddrF rfl rfl fd29_0 rfl rfl rfl rfl ?_
   refine s_loadF rfl rfl (rowG hx0) ty9 rfl (.inr rfl) (by conv => lhs; whnf) rfl rfl rfl ?_
   refine m1 ?_
   refine bnd1_elim h fun x2 q3 h => ?_
   refine s_callN (kb := []) (ns := []) (v := .sc (.string x2)) rfl rfl cl111 (ww_markText v0_0 x2 q3) rfl (.cons (.free rfl) .nil) trivial memNil .nil memNil rfl trivial memNil rfl rfl rfl rfl rfl rfl ?_
   refine s_of (st_neS rfl rfl rfl) rfl rfl rfl rfl ?_
   refine rt_nil ⟨by kernel_rfl, ?_⟩
   refine tri_cond rfl (fun c4 => ?_) (fun c4 => ?_)
   ·replace h := cond_t h c4
    refine tri_sr ?_
    refine s_mv (.inr rfl) (v := .sc (.int .i64 (-1))) rfl rfl rfl rfl ?_
    refine rt_nil ?_
    refine tri_ret ?_
    have e0 := (some1 h); subst e0
    exact endY [] [] (rvC (resTmp rfl) rvN) trivial trivial rfl rfl rfl rfl (.free rfl)
   ·replace h := cond_f h c4
    refine tri_skip ?_
    refine tri_sr ?_
    refine m1 ?_
    refine grd_elim h fun g5 h => ?_
    refine s_addI rfl rfl rfl rfl g5 rfl rfl rfl ?_
    refine m2 ?_
    refine rt_nil ?_
    refine tri_seq ?_
    refine tri_sr ?_
    refine m1 ?_
    refine m1 ?_
    refine s_indexF (i := v0_1) rfl rfl rfl sl41 (get_ltM hx0) rfl rfl rfl ?_
    refine s_fieldAddrF rfl rfl fd32_0 rfl rfl rfl rfl ?_
    refine s_fieldAddrF rfl rfl fd29_1 rfl rfl rfl rfl ?_
    refine s_loadF rfl rfl (rowG hx0) ty3 rfl (.inr rfl) (by conv => lhs; whnf) rfl rfl rfl ?_
    refine m1 ?_
    refine s_of (st_neI rfl rfl rfl) rfl rfl rfl rfl ?_
    refine rt_nil ?_
    refine tri_cond rfl (fun c6 => ?_) (fun c6 => ?_)
    ·replace h := cond_t h c6
     refine tri_sr ?_
     refine s_mv (.inr rfl) (v := .sc (.int .i64 (-1))) rfl rfl rfl rfl ?_
     refine rt_nil ?_
     refine tri_ret ?_
     have e0 := (some1 h); subst e0
     exact endY [] [] (rvC (resTmp rfl) rvN) trivial trivial rfl rfl rfl rfl (.free rfl)
    ·replace h := cond_f h c6
     refine tri_skip ?_
     refine tri_sr ?_
     refine m1 ?_
     refine grd_elim h fun g7 h => ?_
     refine s_addI rfl rfl rfl rfl g7 rfl rfl rfl ?_
     refine m2 ?_
     refine rt_nil ?_
     refine tri_seq ?_
     refine tri_sr ?_
     refine m1 ?_
     refine m1 ?_
     refine s_indexF (i := v0_1) rfl rfl rfl sl41 (get_ltM hx0) rfl rfl rfl ?_
     refine s_fieldAddrF rfl rfl fd32_1 rfl rfl rfl rfl ?_
     refine s_loadF rfl rfl (rowG hx0) ty3 rfl (.inr rfl) (by conv => lhs; whnf) rfl rfl rfl ?_
     refine m1 ?_
     refine s_of (st_neI rfl rfl rfl) rfl rfl rfl rfl ?_
     refine rt_nil ?_
     refine tri_cond rfl (fun c8 => ?_) (fun c8 => ?_)
     ·replace h := cond_t h c8
      refine tri_sr ?_
      refine s_mv (.inr rfl) (v := .sc (.int .i64 (-1))) rfl rfl rfl rfl ?_
      refine rt_nil ?_
      refine tri_ret ?_
      have e0 := (some1 h); subst e0
      exact endY [] [] (rvC (resTmp rfl) rvN) trivial trivial rfl rfl rfl rfl (.free rfl)
     ·replace h := cond_f h c8
      refine tri_skip ?_
      refine tri_sr ?_
      refine m1 ?_
      refine grd_elim h fun g9 h => ?_
      refine s_addI rfl rfl rfl rfl g9 rfl rfl rfl ?_
      refine m2 ?_
      refine rt_nil ?_
      refine tri_sr ?_
      refine m1 ?_
      refine m1 ?_
      refine s_indexF (i := v0_1) rfl rfl rfl sl41 (get_ltM hx0) rfl rfl rfl ?_
      refine s_fieldAddrF rfl rfl fd32_2 rfl rfl rfl rfl ?_
      refine s_loadF rfl rfl (rowG hx0) ty30 rfl (.inr rfl) (by conv => lhs; whnf) rfl rfl rfl ?_
      refine m1 ?_
      refine bnd1_elim h fun x10 q11 h => ?_
      refine s_callN (kb := []) (ns := []) (v := .sc (.int .i64 x10)) rfl rfl cl112 (ww_heldRecordS e0.l (((v0_0 + 1) + 1) + 1) x10 q11) rfl (.cons (.free rfl) (.cons (.free rfl) .nil)) trivial memNil .nil memNil rfl trivial memNil rfl rfl rfl rfl rfl rfl ?_
      refine m2 ?_
      refine rt_nil ?_
      refine tri_seq ?_
      refine tri_sr ?_
      refine m1 ?_
      refine s_of (st_lss rfl rfl rfl) rfl rfl rfl rfl ?_
      refine rt_nil ?_
      refine tri_cond rfl (fun c12 => ?_) (fun c12 => ?_)
      ·replace h := cond_t h c12
       refine tri_sr ?_
       refine s_mv (.inr rfl) (v := .sc (.int .i64 (-1))) rfl rfl rfl rfl ?_
       refine rt_nil ?_
       refine tri_ret ?_
       have e0 := (some1 h); subst e0
       exact endY [] [] (rvC (resTmp rfl) rvN) trivial trivial rfl rfl rfl rfl (.free rfl)
      ·replace h := cond_f h c12
       refine tri_skip ?_
       refine tri_seq ?_
       refine tri_sr ?_
       refine m1 ?_
       refine m1 ?_
       refine s_indexF (i := v0_1) rfl rfl rfl sl41 (get_ltM hx0) rfl rfl rfl ?_
       refine s_fieldAddrF rfl rfl fd32_3 rfl rfl rfl rfl ?_
       refine s_loadF rfl rfl (rowG hx0) ty3 rfl (.inr rfl) (by conv => lhs; whnf) rfl rfl rfl ?_
       refine m1 ?_
       refine s_of (st_neI rfl rfl rfl) rfl rfl rfl rfl ?_
       refine rt_nil ?_
       refine tri_cond rfl (fun c13 => ?_) (fun c13 => ?_)
       ·replace h := cond_t h c13
        refine tri_sr ?_
        refine s_mv (.inr rfl) (v := .sc (.int .i64 (-1))) rfl rfl rfl rfl ?_
        refine rt_nil ?_
        refine tri_ret ?_
        have e0 := (some1 h); subst e0
        exact endY [] [] (rvC (resTmp rfl) rvN) trivial trivial rfl rfl rfl rfl (.free rfl)
       ·replace h := cond_f h c13
        refine tri_skip ?_
        refine tri_sr ?_
        refine m1 ?_
        refine grd_elim h fun g14 h => ?_
        refine s_addI rfl rfl rfl rfl g14 rfl rfl rfl ?_
        refine m2 ?_
        refine rt_nil ?_
        refine tri_seq ?_
        refine tri_sr ?_
        refine m1 ?_
        refine m1 ?_
        refine s_indexF (i := v0_1) rfl rfl rfl sl41 (get_ltM hx0) rfl rfl rfl ?_
        refine s_fieldAddrF rfl rfl fd32_4 rfl rfl rfl rfl ?_
        refine s_loadF rfl rfl (rowG hx0) ty3 rfl (.inr rfl) (by conv => lhs; whnf) rfl rfl rfl ?_
        refine m1 ?_
        refine s_of (st_neI rfl rfl rfl) rfl rfl rfl rfl ?_
        refine rt_nil ?_
        refine tri_cond rfl (fun c15 => ?_) (fun c15 => ?_)
        ·replace h := cond_t h c15
         refine tri_sr ?_
         refine s_mv (.inr rfl) (v := .sc (.int .i64 (-1))) rfl rfl rfl rfl ?_
         refine rt_nil ?_
         refine tri_ret ?_
         have e0 := (some1 h); subst e0
         exact endY [] [] (rvC (resTmp rfl) rvN) trivial trivial rfl rfl rfl rfl (.free rfl)
        ·replace h := cond_f h c15
         refine tri_skip ?_
         refine tri_region ?_
         refine m1 ?_
         refine grd_elim h fun g16 h => ?_
         refine s_addI rfl rfl rfl rfl g16 rfl rfl rfl ?_
         refine m2 ?_
         refine rt_nil ?_
         refine tri_region ?_
         refine m1 ?_
         refine s_inc (a := v0_1) (b := 1) rfl rfl rfl rfl (by have := get_lt hx0; have := hl0; omega) rfl rfl rfl ?_
         refine m2 ?_
         refine rt_nil ?_
         refine Exists.intro ⟨(rs0, (x10 + 1) + 1, (v0_1 + 1)), hn0, h⟩ (And.intro (Nat.lt_succ_self _) ?_)
         refine entX [] [] trivial trivial rfl rfl ?_
         exact ⟨(.free rfl), (.free rfl), (.free rfl), trivial⟩
  ·have he := drop_f hd0 c1; subst he
   rw [w_heldEntryS_l0] at h
   refine tri_exit ?_
   refine tri_sr ?_
   refine m1 ?_
   refine m2 ?_
   refine rt_nil ?_
   refine tri_ret ?_
   have e0 := (some1 h); subst e0
   exact endY [] [] (rvC (resTmp rfl) rvN) trivial trivial rfl rfl rfl rfl (.free rfl)

/- laws.heldCache -/

set_option maxRecDepth 4000 in
set_option maxHeartbeats 800000 in
theorem ww_heldCache (p0 : MCache) (p1 : Int) (r0 : Int) (h : w_heldCache p0 p1 = some r0) : Runs Tryd.prog 38 [.agg (mCacheV p0), .sc (.int .i64 p1)] [] (.sc (.int .i64 r0)) [] := by
 unfold w_heldCache at h
 refine runsR [.tmp 4] Tryd.func38 rfl rfl rfl rfl ?_
 rw [Tryd.ntmps38]
 refine tri_sr ?_
 refine s_box rfl rfl rfl rfl rfl rfl rfl ?_
 refine s_mv (.inr rfl) (v := .sc (.int .i64 0)) rfl rfl rfl rfl ?_
 refine rt_nil ?_
 refine tri_sr ?_
 refine s_fieldAddr rfl rfl fd43_1 rfl rfl rfl rfl ?_
 refine s_load rfl rfl rfl rfl ty41 rfl (.inr rfl) (by conv => lhs; whnf) rfl rfl rfl ?_
 refine m1 ?_
 refine bnd1_elim h fun x1 q2 h => ?_
 refine s_callN (kb := []) (ns := []) (v := .sc (.int .i64 x1)) rfl rfl cl84 (ww_heldEntryS p0.l p1 x1 q2) rfl (.cons (.free rfl) (.cons (.free rfl) .nil)) trivial memNil .nil memNil rfl trivial memNil rfl rfl rfl rfl rfl rfl ?_
 refine m2 ?_
 refine rt_nil ?_
 refine tri_seq ?_
 refine tri_sr ?_
 refine m1 ?_
 refine s_of (st_lss rfl rfl rfl) rfl rfl rfl rfl ?_
 refine rt_nil ?_
 refine tri_cond rfl (fun c3 => ?_) (fun c3 => ?_)
 ·replace h := cond_t h c3
  refine tri_sr ?_
  refine s_mv (.inr rfl) (v := .sc (.int .i64 (-1))) rfl rfl rfl rfl ?_
  refine rt_nil ?_
  refine tri_ret ?_
  have e0 := (some1 h); subst e0
  exact endY [] [] (rvC (resTmp rfl) rvN) trivial trivial rfl rfl rfl rfl (.free rfl)
 ·replace h := cond_f h c3
  refine tri_skip ?_
  refine tri_sr ?_
  refine m1 ?_
  refine m2 ?_
  refine rt_nil ?_
  refine tri_ret ?_
  have e0 := (some1 h); subst e0
  exact endY [] [] (rvC (resTmp rfl) rvN) trivial trivial rfl rfl rfl rfl (.free rfl)

/- laws.FnExactKeep -/
def inv_w_FnExactKeep_0 (p0 : MCache) (p1 : Int) (p2 : MEntry) (x11 : MCache) (x17 : MCache) (j0_0 : Bool) : St := mkT 97 [(1, .sc (.int .i64 p1)), (3, .ptr (3, 0) 0 0), (5, .ptr (5, 0) 0 0), (8, .ptr (8, 0) 0 0), (11, .ptr (11, 0) 0 0), (67, .sc (.bool j0_0))] ([((3, 0), some ⟨38, 2, [[.sc (.int .i64 p0.cap), .lst 6 (List.map mEntryV p0.l)]], false, true⟩), ((5, 0), some ⟨26, 6, [[.sc (.string p2.q.name), .sc (.int .i64 p2.q.ty), .sc (.int .i64 p2.kind), .lst 6 (List.map recV p2.l), .sc (.int .i64 p2.rank), .sc (.int .i64 p2.til)]], false, true⟩), ((8, 0), some ⟨43, 2, [[.sc (.int .i64 x11.cap), .ref (31, 1) 0 x11.l.length]], false, true⟩), ((31, 1), some ⟨32, 6, List.map mEntryV x11.l, false, true⟩), ((11, 0), some ⟨43, 2, [[.sc (.int .i64 x17.cap), .ref (39, 1) 0 x17.l.length]], false, true⟩), ((39, 1), some ⟨32, 6, nr 39 mEntryN 10000 x17.l, false, true⟩)] ++ (fam 39 10000 (List.map mEntryG x17.l) ++ []))
set_option maxRecDepth 4000 in
set_option maxHeartbeats 800000 in
theorem ww_FnExactKeep (p0 : MCache) (p1 : Int) (p2 : MEntry) (r0 : Bool) (h : w_FnExactKeep p0 p1 p2 = some r0) : Runs Tryd.prog 8 [.agg (mCacheV p0), .sc (.int .i64 p1), .agg (mEntryV p2)] [] (.sc (.bool r0)) [] := by
 unfold w_FnExactKeep at h
 refine runsR [.tmp 6] Tryd.func8 rfl rfl rfl rfl ?_
 rw [Tryd.ntmps8]
 refine tri_sr ?_
 refine s_box rfl rfl rfl rfl rfl rfl rfl ?_
 refine s_box rfl rfl rfl rfl rfl rfl rfl ?_
 refine s_mv (.inr rfl) (v := .sc (.bool false)) rfl rfl rfl rfl ?_
 refine rt_nil ?_
 refine tri_sr ?_
 refine s_mv (.inr rfl) (v := .sc (.int .i64 1048576)) rfl rfl rfl rfl ?_
 refine rt_nil ?_
 refine tri_sr ?_
 refine s_loadR rfl rfl rfl rfl ty38 rfl rfl rfl ?_
 refine m1 ?_
 refine bnd1_elim h fun x1 q2 h => ?_
 refine s_callN (kb := []) (ns := []) (v := .sc (.int .i64 x1)) rfl rfl cl14 (ww_szCache p0 1048576 x1 q2) rfl (.cons (relAgg rfl) (.cons (.free rfl) .nil)) trivial memNil .nil memNil rfl trivial memNil rfl rfl rfl rfl rfl rfl ?_
 refine m2 ?_
 refine rt_nil ?_
 refine tri_seq ?_
 refine tri_sr ?_
 refine m1 ?_
 refine s_of (st_lss rfl rfl rfl) rfl rfl rfl rfl ?_
 refine rt_nil ?_
 refine tri_cond rfl (fun c3 => ?_) (fun c3 => ?_)
 ·replace h := cond_t h c3
  refine tri_sr ?_
  refine s_mv (.inr rfl) (v := .sc (.bool true)) rfl rfl rfl rfl ?_
  refine rt_nil ?_
  refine tri_ret ?_
  have e0 := (some1 h); subst e0
  exact endY [] [] (rvC (resTmp rfl) rvN) trivial trivial rfl rfl rfl rfl (.free rfl)
 ·replace h := cond_f h c3
  refine tri_skip ?_
  refine tri_sr ?_
  refine s_loadR rfl rfl rfl rfl ty26 rfl rfl rfl ?_
  refine m1 ?_
  refine bnd1_elim h fun x4 q5 h => ?_
  refine s_callN (kb := []) (ns := []) (v := .sc (.int .i64 x4)) rfl rfl cl9 (ww_szEntry p2 x1 x4 q5) rfl (.cons (relAgg rfl) (.cons (.free rfl) .nil)) trivial memNil .nil memNil rfl trivial memNil rfl rfl rfl rfl rfl rfl ?_
  refine m2 ?_
  refine rt_nil ?_
  refine tri_seq ?_
  refine tri_sr ?_
  refine m1 ?_
  refine s_of (st_lss rfl rfl rfl) rfl rfl rfl rfl ?_
  refine rt_nil ?_
  refine tri_cond rfl (fun c6 => ?_) (fun c6 => ?_)
  ·replace h := cond_t h c6
   refine tri_sr ?_
   refine s_mv (.inr rfl) (v := .sc (.bool true)) rfl rfl rfl rfl ?_
   refine rt_nil ?_
   refine tri_ret ?_
   have e0 := (some1 h); subst e0
   exact endY [] [] (rvC (resTmp rfl) rvN) trivial trivial rfl rfl rfl rfl (.free rfl)
  ·replace h := cond_f h c6
   refine tri_skip ?_
   refine tri_seq ?_
   refine tri_draw mixed ?_
   refine s_loadR rfl rfl rfl rfl ty38 rfl rfl rfl ?_
   refine bnd1_elim h fun x7 q8 h => ?_
   refine s_callZ (kb := []) (ns := []) (v := .agg [.sc (.int .i64 x7.cap), .ref (27, 1) 0 x7.l.length]) rfl rfl cl16 (ww_toCache p0 x7 q8) rfl (.cons (relAgg rfl) .nil) trivial memNil .nil memNil trivial rfl ⟨(allFree_map mEntryV_free), trivial⟩ memNil rfl (by simp only [V.mat, V.mat1, V.mat0, matL, matT, List.length_map] <;> rfl) rfl rfl rfl rfl ?_
   refine m1 ?_
   refine s_loadR rfl rfl rfl rfl ty26 rfl rfl rfl ?_
   refine bnd1_elim h fun x9 q10 h => ?_
   refine s_callN (kb := []) (ns := []) (v := .agg [.sc (.string x9.q.name), .sc (.int .i64 x9.q.ty), .sc (.int .i64 x9.kind), .ref (30, 3) 0 x9.l.length, .sc (.int .i64 x9.rank), .sc (.int .i64 x9.til)]) rfl rfl cl11 (ww_toEntry p2 x9 q10) rfl (.cons (relAgg rfl) .nil) trivial memNil .nil memNil rfl ⟨(allSc_map recV_sc), trivial⟩ memNil rfl (by simp only [V.mat, V.mat1, V.mat0, matL, matT, List.length_map] <;> rfl) rfl rfl rfl rfl ?_
   refine bnd1_elim h fun x11 q12 h => ?_
   refine s_callZ (kb := [(27, 1), (30, 3)]) (ns := []) (v := .agg [.sc (.int .i64 x11.cap), .ref (31, 1) 0 x11.l.length]) rfl rfl cl34 (ws_Keep x7 p1 x9 x11 q12) rfl (.cons (relAggL (.cons (.free rfl) (.cons (lendL rfl (.head _) rfl mEntryV_free mEntryV_len) .nil))) (.cons (.free rfl) (.cons (relAggL (.cons (.free rfl) (.cons (.free rfl) (.cons (.free rfl) (.cons (lendL rfl (.tail _ (.head _)) rfl recV_free recV_len) (.cons (.free rfl) (.cons (.free rfl) .nil))))))) .nil))) trivial memNil .nil (fun _ _ => List.not_mem_nil) ⟨⟨_, rfl, rfl⟩, ⟨⟨_, rfl, rfl⟩, trivial⟩⟩ rfl ⟨(allFree_map mEntryV_free), trivial⟩ memNil rfl (by simp only [V.mat, V.mat1, V.mat0, matL, matT, List.length_map] <;> rfl) rfl rfl rfl rfl ?_
   refine s_alloc rfl rfl rfl zc43 rfl rfl rfl rfl rfl ?_
   refine s_storeB rfl rfl rfl ty43 rfl rfl rfl rfl rfl ?_
   refine rt_nil ⟨by kernel_rfl, ?_⟩
   refine tri_sr ?_
   refine s_loadR rfl rfl rfl rfl ty38 rfl rfl rfl ?_
   refine bnd1_elim h fun x13 q14 h => ?_
   refine s_callRt (kb := []) (os' := [(1, ⟨32, 6, nr 33 mEntryN 10000 x13.l, false, true⟩)]) (y := .agg [.sc (.int .i64 x13.cap), .ref (33, 1) 0 x13.l.length]) rfl rfl cl16 (wRw_toCache p0 x13 q14) rfl (.cons (relAgg rfl) .nil) (.cons (outRows mEntryN_z (fun i x hx => (.cons retSc (.cons retSc (.cons retSc (.cons (.own (owns_at (by rw [List.length_map]; exact (List.getElem?_eq_some_iff.1 hx).1))) (.cons retSc (.cons retSc .nil)))))))) id .nil) (fun x => allSc_map recV_sc) mEntryG_z (RetL.agg (.cons retSc (.cons (.own rfl) .nil))) (fun q E h => by simp only [List.mem_cons, List.not_mem_nil, or_false, Prod.mk.injEq] at h; rcases h with ⟨rfl, -⟩ <;> exact rfl) (fun i => rfl) rfl rfl rfl ?_
   refine s_alloc rfl rfl (by repeat (first | exact rfl | exact famNo rfl rfl | refine lkNo rfl ?_ | refine famNo rfl ?_)) zc43 rfl rfl rfl rfl rfl ?_
   refine s_storeB rfl rfl rfl ty43 rfl rfl rfl rfl rfl ?_
   refine rt_nil ?_
   refine tri_sr ?_
   refine s_loadR rfl rfl rfl rfl ty26 rfl rfl rfl ?_
   refine bnd1_elim h fun x15 q16 h => ?_
   refine s_callN (kb := []) (ns := []) (v := .agg [.sc (.string x15.q.name), .sc (.int .i64 x15.q.ty), .sc (.int .i64 x15.kind), .ref (35, 3) 0 x15.l.length, .sc (.int .i64 x15.rank), .sc (.int .i64 x15.til)]) rfl rfl cl11 (ww_toEntry p2 x15 q16) rfl (.cons (relAgg rfl) .nil) trivial memNil .nil memNil rfl ⟨(allSc_map recV_sc), trivial⟩ memNil (habC (by repeat (first | exact rfl | exact famNo rfl rfl | refine lkNo rfl ?_ | refine famNo rfl ?_)) habN) (by simp only [V.mat, V.mat1, V.mat0, matL, matT, List.length_map] <;> rfl) rfl rfl rfl rfl ?_
   refine s_alloc rfl rfl (by repeat (first | exact rfl | exact famNo rfl rfl | refine lkNo rfl ?_ | refine famNo rfl ?_)) zc32 rfl rfl rfl rfl rfl ?_
   refine s_storeB rfl rfl rfl ty32 rfl rfl rfl rfl rfl ?_
   refine rt_nil ?_
   refine tri_seq ?_
   refine Tri.ent (st' := mkT 97 [(1, .sc (.int .i64 p1)), (3, .ptr (3, 0) 0 0), (5, .ptr (5, 0) 0 0), (8, .ptr (8, 0) 0 0), (9, .ptr (9, 0) 0 0), (10, .ptr (10, 0) 0 0)] ([((3, 0), some ⟨38, 2, [[.sc (.int .i64 p0.cap), .lst 6 (List.map mEntryV p0.l)]], false, true⟩), ((5, 0), some ⟨26, 6, [[.sc (.string p2.q.name), .sc (.int .i64 p2.q.ty), .sc (.int .i64 p2.kind), .lst 6 (List.map recV p2.l), .sc (.int .i64 p2.rank), .sc (.int .i64 p2.til)]], false, true⟩), ((8, 0), some ⟨43, 2, [[.sc (.int .i64 x11.cap), .ref (31, 1) 0 x11.l.length]], false, true⟩), ((31, 1), some ⟨32, 6, List.map mEntryV x11.l, false, true⟩), ((9, 0), some ⟨43, 2, [[.sc (.int .i64 x13.cap), .ref (33, 1) 0 x13.l.length]], false, true⟩), ((33, 1), some ⟨32, 6, nr 33 mEntryN 10000 x13.l, false, true⟩), ((10, 0), some ⟨32, 6, [[.sc (.string x15.q.name), .sc (.int .i64 x15.q.ty), .sc (.int .i64 x15.kind), .ref (35, 3) 0 x15.l.length, .sc (.int .i64 x15.rank), .sc (.int .i64 x15.til)]], false, true⟩), ((35, 3), some ⟨60, 6, List.map recV x15.l, false, true⟩)] ++ (fam 33 10000 (List.map mEntryG x13.l) ++ []))) ?_ ?_
   ·skip
    refine entK (items := [((3, 0), ⟨38, 2, [[.sc (.int .i64 p0.cap), .lst 6 (List.map mEntryV p0.l)]], false, true⟩, some (3, 0)), ((5, 0), ⟨26, 6, [[.sc (.string p2.q.name), .sc (.int .i64 p2.q.ty), .sc (.int .i64 p2.kind), .lst 6 (List.map recV p2.l), .sc (.int .i64 p2.rank), .sc (.int .i64 p2.til)]], false, true⟩, some (5, 0)), ((8, 0), ⟨43, 2, [[.sc (.int .i64 x11.cap), .ref (31, 1) 0 x11.l.length]], false, true⟩, some (8, 0)), ((31, 1), ⟨32, 6, List.map mEntryV x11.l, false, true⟩, some (31, 1)), ((9, 0), ⟨43, 2, [[.sc (.int .i64 x13.cap), .ref (33, 1) 0 x13.l.length]], false, true⟩, some (9, 0)), ((33, 1), ⟨32, 6, nr 33 mEntryN 10000 x13.l, false, true⟩, some (33, 1)), ((10, 0), ⟨32, 6, [[.sc (.string x15.q.name), .sc (.int .i64 x15.q.ty), .sc (.int .i64 x15.kind), .ref (35, 3) 0 x15.l.length, .sc (.int .i64 x15.rank), .sc (.int .i64 x15.til)]], false, true⟩, some (10, 0)), ((35, 3), ⟨60, 6, List.map recV x15.l, false, true⟩, some (35, 3))]) (D := []) (a := 33) (b := 10000) (l := x13.l) (g := mEntryG) ⟨⟨rfl, _, rfl, rfl, rfl, rfl, id, rowsCv_one (.cons (.free rfl) (.cons (.free rfl) .nil)), rowsZ_one rfl⟩, ⟨rfl, _, rfl, rfl, rfl, rfl, id, rowsCv_one (.cons (.free rfl) (.cons (.free rfl) (.cons (.free rfl) (.cons (.free rfl) (.cons (.free rfl) (.cons (.free rfl) .nil)))))), rowsZ_one rfl⟩, ⟨rfl, _, rfl, rfl, rfl, rfl, id, rowsCv_one (.cons (.free rfl) (.cons (.ref rfl) .nil)), rowsZ_one rfl⟩, ⟨rfl, _, rfl, rfl, rfl, rfl, id, rowsCv_eq rfl (allFree_map mEntryV_free), rowsZ_map mEntryV_len⟩, ⟨rfl, _, rfl, rfl, rfl, rfl, id, rowsCv_one (.cons (.free rfl) (.cons (.ref rfl) .nil)), rowsZ_one rfl⟩, ⟨rfl, _, rfl, rfl, rfl, rfl, id, rowsCv_fam (fun x h => mEntryN_cv x h), nr_rowsZ mEntryN_z⟩, ⟨rfl, _, rfl, rfl, rfl, rfl, id, rowsCv_one (.cons (.free rfl) (.cons (.free rfl) (.cons (.free rfl) (.cons (.ref rfl) (.cons (.free rfl) (.cons (.free rfl) .nil)))))), rowsZ_one rfl⟩, ⟨rfl, _, rfl, rfl, rfl, rfl, id, rowsCv_eq rfl (allFree_map recV_free), rowsZ_map recV_len⟩, trivial⟩ trivial rfl rfl rfl rfl (fun j y hy => (by repeat (first | exact fam_lk (by rw [List.getElem?_map, hy]; rfl) | refine lkTo rfl ?_ | refine famTo rfl ?_))) mEntryG_f mEntryG_z (fun j => (by repeat (first | exact rfl | exact famNo rfl rfl | refine lkNo rfl ?_ | refine famNo rfl ?_))) ?_
    exact ⟨(.free rfl), (.ptr rfl), (.ptr rfl), (.ptr rfl), (.ptr rfl), (.ptr rfl), trivial⟩
   refine tri_region ?_
   refine s_loadR rfl rfl rfl rfl ty43 rfl rfl rfl ?_
   refine m1 ?_
   refine s_loadR rfl rfl rfl rfl ty32 rfl rfl rfl ?_
   refine bnd1_elim h fun x17 q18 h => ?_
   refine s_callRt2 (A := [_, _, _, _, _, _, _, _]) (a0 := 33) (b0 := 10000) (Es := List.map mEntryG x13.l) (kb := [(33, 1), (35, 3)] ++ famN 33 10000 x13.l.length) (os' := [(1, ⟨32, 6, nr 39 mEntryN 10000 x17.l, false, true⟩)]) (y := .agg [.sc (.int .i64 x17.cap), .ref (39, 1) 0 x17.l.length]) rfl rfl rfl cl33 (wRi_Keep x13 p1 x15 x17 q18) rfl (.cons (relAggL (.cons (.free rfl) (.cons (lendN (a := 33) (b := 10000) (f := mEntryN) (g := mEntryG) rfl (List.mem_append_left _ (.head _)) rfl (fun i x hx => ⟨List.mem_append_right _ (famN_iff.2 ⟨i, (List.getElem?_eq_some_iff.1 hx).1, rfl⟩), (by repeat (first | exact fam_lk (by rw [List.getElem?_map, hx]; rfl) | refine lkTo rfl ?_ | refine famTo rfl ?_))⟩) (fun m x hm hl => (.cons (.free rfl) (.cons (.free rfl) (.cons (.free rfl) (.cons (lendL hl hm rfl recV_free recV_len) (.cons (.free rfl) (.cons (.free rfl) .nil))))))) mEntryV_free mEntryV_len) .nil))) (.cons (.free rfl) (.cons (relAggL (.cons (.free rfl) (.cons (.free rfl) (.cons (.free rfl) (.cons (lendL rfl (List.mem_append_left _ (.tail _ (.head _))) rfl recV_free recV_len) (.cons (.free rfl) (.cons (.free rfl) .nil))))))) .nil))) (.cons (outRows mEntryN_z (fun i x hx => (.cons retSc (.cons retSc (.cons retSc (.cons (.own (owns_at (by rw [List.length_map]; exact (List.getElem?_eq_some_iff.1 hx).1))) (.cons retSc (.cons retSc .nil)))))))) id .nil) (fun x => allSc_map recV_sc) mEntryG_z (RetL.agg (.cons retSc (.cons (.own rfl) .nil))) (fun q E h => by simp only [List.mem_cons, List.not_mem_nil, or_false, Prod.mk.injEq] at h; rcases h with ⟨rfl, -⟩ <;> exact (by repeat (first | exact rfl | exact famNo rfl rfl | refine lkNo rfl ?_ | refine famNo rfl ?_))) (fun i => (by repeat (first | exact rfl | exact famNo rfl rfl | refine lkNo rfl ?_ | refine famNo rfl ?_))) rfl rfl rfl ?_
   refine s_alloc rfl rfl (by repeat (first | exact rfl | exact famNo rfl rfl | refine lkNo rfl ?_ | refine famNo rfl ?_)) zc43 rfl rfl rfl rfl rfl ?_
   refine s_storeB rfl rfl rfl ty43 rfl rfl rfl rfl rfl ?_
   refine rt_nil ?_
   refine tri_seq ?_
   refine tri_sr ?_
   refine s_loadR rfl rfl rfl rfl ty43 rfl rfl rfl ?_
   refine s_loadR rfl rfl rfl rfl ty43 rfl rfl rfl ?_
   refine bnd1_elim h fun x19 q20 h => ?_
   refine s_callN (kb := [(39, 1), (31, 1)] ++ famN 39 10000 x17.l.length) (ns := []) (v := .sc (.bool x19)) rfl rfl cl18 (ww_eqCache x17 x11 x19 q20) rfl (.cons (relAggL (.cons (.free rfl) (.cons (lendN (a := 39) (b := 10000) (f := mEntryN) (g := mEntryG) rfl (List.mem_append_left _ (.head _)) rfl (fun i x hx => ⟨List.mem_append_right _ (famN_iff.2 ⟨i, (List.getElem?_eq_some_iff.1 hx).1, rfl⟩), (by repeat (first | exact fam_lk (by rw [List.getElem?_map, hx]; rfl) | refine lkTo rfl ?_ | refine famTo rfl ?_))⟩) (fun m x hm hl => (.cons (.free rfl) (.cons (.free rfl) (.cons (.free rfl) (.cons (lendL hl hm rfl recV_free recV_len) (.cons (.free rfl) (.cons (.free rfl) .nil))))))) mEntryV_free mEntryV_len) .nil))) (.cons (relAggL (.cons (.free rfl) (.cons (lendL rfl (List.mem_append_left _ (.tail _ (.head _))) rfl mEntryV_free mEntryV_len) .nil))) .nil)) trivial memNil .nil (fun _ _ => List.not_mem_nil) rfl trivial memNil rfl rfl rfl rfl rfl rfl ?_
   refine s_of (st_not rfl rfl) rfl rfl rfl rfl ?_
   refine rt_nil ?_
   refine tri_cond rfl (fun c21 => ?_) (fun c21 => ?_)
   ·replace h := cond_t h c21
    refine tri_sr ?_
    refine s_mv (.inr rfl) (v := .sc (.bool false)) rfl rfl rfl rfl ?_
    refine rt_nil ?_
    refine tri_ret ?_
    have e0 := (some1 h); subst e0
    exact endY [] [] (rvC (resTmp rfl) rvN) trivial trivial rfl (by repeat (first | exact itb_nil | refine itb_cons rfl ?_ | refine itb_fam rfl ?_)) rfl rfl (.free rfl)
   ·replace h := cond_f h c21
    refine tri_skip ?_
    refine tri_seq ?_
    refine tri_seq ?_
    refine tri_draw mixed ?_
    refine s_loadR rfl rfl rfl rfl ty43 rfl rfl rfl ?_
    refine s_loadR rfl rfl rfl rfl ty38 rfl rfl rfl ?_
    refine bnd1_elim h fun x22 q23 h => ?_
    refine s_callZ (kb := []) (ns := []) (v := .agg [.sc (.int .i64 x22.cap), .ref (46, 1) 0 x22.l.length]) rfl rfl cl16 (ww_toCache p0 x22 q23) rfl (.cons (relAgg rfl) .nil) trivial memNil .nil memNil trivial rfl ⟨(allFree_map mEntryV_free), trivial⟩ memNil (habC (by repeat (first | exact rfl | exact famNo rfl rfl | refine lkNo rfl ?_ | refine famNo rfl ?_)) habN) (by simp only [V.mat, V.mat1, V.mat0, matL, matT, List.length_map] <;> rfl) rfl rfl rfl rfl ?_
    refine bnd1_elim h fun x24 q25 h => ?_
    refine s_callN (kb := [(33, 1), (46, 1)] ++ famN 33 10000 x13.l.length) (ns := []) (v := .sc (.bool x24)) rfl rfl cl18 (ww_eqCache x13 x22 x24 q25) rfl (.cons (relAggL (.cons (.free rfl) (.cons (lendN (a := 33) (b := 10000) (f := mEntryN) (g := mEntryG) rfl (List.mem_append_left _ (.head _)) rfl (fun i x hx => ⟨List.mem_append_right _ (famN_iff.2 ⟨i, (List.getElem?_eq_some_iff.1 hx).1, rfl⟩), (by repeat (first | exact fam_lk (by rw [List.getElem?_map, hx]; rfl) | refine lkTo rfl ?_ | refine famTo rfl ?_))⟩) (fun m x hm hl => (.cons (.free rfl) (.cons (.free rfl) (.cons (.free rfl) (.cons (lendL hl hm rfl recV_free recV_len) (.cons (.free rfl) (.cons (.free rfl) .nil))))))) mEntryV_free mEntryV_len) .nil))) (.cons (relAggL (.cons (.free rfl) (.cons (lendL rfl (List.mem_append_left _ (.tail _ (.head _))) rfl mEntryV_free mEntryV_len) .nil))) .nil)) trivial memNil .nil (fun _ _ => List.not_mem_nil) rfl trivial memNil rfl rfl rfl rfl rfl rfl ?_
    refine s_of (st_not rfl rfl) rfl rfl rfl rfl ?_
    refine rt_nil ⟨drawCov (W := [33]) (by kernel_rfl) (covS rfl (covS rfl (covS rfl (covM (rs' := [(33, 1), (46, 1)]) rfl (fun m hm => cov_fam (rs := [(33, 1), (46, 1)]) (a := 33) (b := 10000) (k := x13.l.length) (by decide) (.head _) m hm) (covS rfl .nil))))), ?_⟩
    refine tri_cond rfl (fun c26 => ?_) (fun c26 => ?_)
    ·replace h := cond_t h c26
     refine tri_sr ?_
     refine s_mv (.inr rfl) (v := .sc (.bool false)) rfl rfl rfl rfl ?_
     refine rt_nil ?_
     refine tri_ret ?_
     have e0 := (some1 h); subst e0
     exact endY [] [] (rvC (resTmp rfl) rvN) trivial trivial rfl (by repeat (first | exact itb_nil | refine itb_cons rfl ?_ | refine itb_fam rfl ?_)) rfl rfl (.free rfl)
    ·replace h := cond_f h c26
     refine tri_skip ?_
     refine tri_seq ?_
     refine tri_seq ?_
     refine tri_draw mixed ?_
     refine s_loadR rfl rfl rfl rfl ty32 rfl rfl rfl ?_
     refine s_loadR rfl rfl rfl rfl ty26 rfl rfl rfl ?_
     refine bnd1_elim h fun x27 q28 h => ?_
     refine s_callN (kb := []) (ns := []) (v := .agg [.sc (.string x27.q.name), .sc (.int .i64 x27.q.ty), .sc (.int .i64 x27.kind), .ref (51, 3) 0 x27.l.length, .sc (.int .i64 x27.rank), .sc (.int .i64 x27.til)]) rfl rfl cl11 (ww_toEntry p2 x27 q28) rfl (.cons (relAgg rfl) .nil) trivial memNil .nil memNil rfl ⟨(allSc_map recV_sc), trivial⟩ memNil (habC (by repeat (first | exact rfl | exact famNo rfl rfl | refine lkNo rfl ?_ | refine famNo rfl ?_)) habN) (by simp only [V.mat, V.mat1, V.mat0, matL, matT, List.length_map] <;> rfl) rfl rfl rfl rfl ?_
     refine bnd1_elim h fun x29 q30 h => ?_
     refine s_callN (kb := [(35, 3), (51, 3)]) (ns := []) (v := .sc (.bool x29)) rfl rfl cl13 (ww_eqEntry x15 x27 x29 q30) rfl (.cons (relAggL (.cons (.free rfl) (.cons (.free rfl) (.cons (.free rfl) (.cons (lendL rfl (.head _) rfl recV_free recV_len) (.cons (.free rfl) (.cons (.free rfl) .nil))))))) (.cons (relAggL (.cons (.free rfl) (.cons (.free rfl) (.cons (.free rfl) (.cons (lendL rfl (.tail _ (.head _)) rfl recV_free recV_len) (.cons (.free rfl) (.cons (.free rfl) .nil))))))) .nil)) trivial memNil .nil (fun _ _ => List.not_mem_nil) rfl trivial memNil rfl rfl rfl rfl rfl rfl ?_
     refine s_of (st_not rfl rfl) rfl rfl rfl rfl ?_
     refine rt_nil ⟨by kernel_rfl, ?_⟩
     refine tri_cond rfl (fun c31 => ?_) (fun c31 => ?_)
     ·replace h := cond_t h c31
      refine tri_sr ?_
      refine s_mv (.inr rfl) (v := .sc (.bool false)) rfl rfl rfl rfl ?_
      refine rt_nil ?_
      refine tri_ret ?_
      have e0 := (some1 h); subst e0
      exact endY [] [] (rvC (resTmp rfl) rvN) trivial trivial rfl (by repeat (first | exact itb_nil | refine itb_cons rfl ?_ | refine itb_fam rfl ?_)) rfl rfl (.free rfl)
     ·replace h := cond_f h c31
      refine tri_skip ?_
      refine tri_sr ?_
      refine s_mv (.inr rfl) (v := .sc (.int .i64 1)) rfl rfl rfl rfl ?_
      refine rt_nil ?_
      refine tri_seq ?_
      refine Tri.ent (st' := mkT 97 [(1, .sc (.int .i64 p1)), (3, .ptr (3, 0) 0 0), (5, .ptr (5, 0) 0 0), (8, .ptr (8, 0) 0 0), (9, .ptr (9, 0) 0 0), (10, .ptr (10, 0) 0 0), (11, .ptr (11, 0) 0 0), (12, .sc (.int .i64 1))] ([((3, 0), some ⟨38, 2, [[.sc (.int .i64 p0.cap), .lst 6 (List.map mEntryV p0.l)]], false, true⟩), ((5, 0), some ⟨26, 6, [[.sc (.string p2.q.name), .sc (.int .i64 p2.q.ty), .sc (.int .i64 p2.kind), .lst 6 (List.map recV p2.l), .sc (.int .i64 p2.rank), .sc (.int .i64 p2.til)]], false, true⟩), ((8, 0), some ⟨43, 2, [[.sc (.int .i64 x11.cap), .ref (31, 1) 0 x11.l.length]], false, true⟩), ((31, 1), some ⟨32, 6, List.map mEntryV x11.l, false, true⟩), ((9, 0), some ⟨43, 2, [[.sc (.int .i64 x13.cap), .ref (33, 1) 0 x13.l.length]], false, true⟩), ((33, 1), some ⟨32, 6, nr 33 mEntryN 10000 x13.l, false, true⟩), ((10, 0), some ⟨32, 6, [[.sc (.string x15.q.name), .sc (.int .i64 x15.q.ty), .sc (.int .i64 x15.kind), .ref (35, 3) 0 x15.l.length, .sc (.int .i64 x15.rank), .sc (.int .i64 x15.til)]], false, true⟩), ((35, 3), some ⟨60, 6, List.map recV x15.l, false, true⟩), ((11, 0), some ⟨43, 2, [[.sc (.int .i64 x17.cap), .ref (39, 1) 0 x17.l.length]], false, true⟩), ((39, 1), some ⟨32, 6, nr 39 mEntryN 10000 x17.l, false, true⟩)] ++ (fam 33 10000 (List.map mEntryG x13.l) ++ (fam 39 10000 (List.map mEntryG x17.l) ++ [])))) ?_ ?_
      ·skip
       refine entK2 (l := [((3, 0), ⟨38, 2, [[.sc (.int .i64 p0.cap), .lst 6 (List.map mEntryV p0.l)]], false, true⟩, some (3, 0)), ((5, 0), ⟨26, 6, [[.sc (.string p2.q.name), .sc (.int .i64 p2.q.ty), .sc (.int .i64 p2.kind), .lst 6 (List.map recV p2.l), .sc (.int .i64 p2.rank), .sc (.int .i64 p2.til)]], false, true⟩, some (5, 0)), ((8, 0), ⟨43, 2, [[.sc (.int .i64 x11.cap), .ref (31, 1) 0 x11.l.length]], false, true⟩, some (8, 0)), ((31, 1), ⟨32, 6, List.map mEntryV x11.l, false, true⟩, some (31, 1)), ((9, 0), ⟨43, 2, [[.sc (.int .i64 x13.cap), .ref (33, 1) 0 x13.l.length]], false, true⟩, some (9, 0)), ((33, 1), ⟨32, 6, nr 33 mEntryN 10000 x13.l, false, true⟩, some (33, 1)), ((10, 0), ⟨32, 6, [[.sc (.string x15.q.name), .sc (.int .i64 x15.q.ty), .sc (.int .i64 x15.kind), .ref (35, 3) 0 x15.l.length, .sc (.int .i64 x15.rank), .sc (.int .i64 x15.til)]], false, true⟩, some (10, 0)), ((35, 3), ⟨60, 6, List.map recV x15.l, false, true⟩, some (35, 3)), ((11, 0), ⟨43, 2, [[.sc (.int .i64 x17.cap), .ref (39, 1) 0 x17.l.length]], false, true⟩, some (11, 0)), ((39, 1), ⟨32, 6, nr 39 mEntryN 10000 x17.l, false, true⟩, some (39, 1))]) (D := []) (a := 33) (b := 10000) (a2 := 39) (b2 := 10000) (l1 := x13.l) (l2 := x17.l) (g := mEntryG) ⟨⟨rfl, _, rfl, rfl, rfl, rfl, id, rowsCv_one (.cons (.free rfl) (.cons (.free rfl) .nil)), rowsZ_one rfl⟩, ⟨rfl, _, rfl, rfl, rfl, rfl, id, rowsCv_one (.cons (.free rfl) (.cons (.free rfl) (.cons (.free rfl) (.cons (.free rfl) (.cons (.free rfl) (.cons (.free rfl) .nil)))))), rowsZ_one rfl⟩, ⟨rfl, _, rfl, rfl, rfl, rfl, id, rowsCv_one (.cons (.free rfl) (.cons (.ref rfl) .nil)), rowsZ_one rfl⟩, ⟨rfl, _, rfl, rfl, rfl, rfl, id, rowsCv_eq rfl (allFree_map mEntryV_free), rowsZ_map mEntryV_len⟩, ⟨rfl, _, rfl, rfl, rfl, rfl, id, rowsCv_one (.cons (.free rfl) (.cons (.ref rfl) .nil)), rowsZ_one rfl⟩, ⟨rfl, _, rfl, rfl, rfl, rfl, id, rowsCv_id (fun j hj => srcK2_1 hj) (fun x h => mEntryN_cv x h), nr_rowsZ mEntryN_z⟩, ⟨rfl, _, rfl, rfl, rfl, rfl, id, rowsCv_one (.cons (.free rfl) (.cons (.free rfl) (.cons (.free rfl) (.cons (.ref rfl) (.cons (.free rfl) (.cons (.free rfl) .nil)))))), rowsZ_one rfl⟩, ⟨rfl, _, rfl, rfl, rfl, rfl, id, rowsCv_eq rfl (allFree_map recV_free), rowsZ_map recV_len⟩, ⟨rfl, _, rfl, rfl, rfl, rfl, id, rowsCv_one (.cons (.free rfl) (.cons (.ref rfl) .nil)), rowsZ_one rfl⟩, ⟨rfl, _, rfl, rfl, rfl, rfl, id, rowsCv_id (fun j hj => srcK2_2 rfl hj) (fun x h => mEntryN_cv x h), nr_rowsZ mEntryN_z⟩, trivial⟩ trivial rfl rfl rfl rfl rfl rfl rfl rfl (fun j y hy => (by repeat (first | exact fam_lk (by rw [List.getElem?_map, hy]; rfl) | refine lkTo rfl ?_ | refine famTo rfl ?_))) (fun j y hy => (by repeat (first | exact fam_lk (by rw [List.getElem?_map, hy]; rfl) | refine lkTo rfl ?_ | refine famTo rfl ?_))) mEntryG_f mEntryG_z (fun j => (by repeat (first | exact rfl | exact famNo rfl rfl | refine lkNo rfl ?_ | refine famNo rfl ?_))) ?_
       exact ⟨(.free rfl), (.ptr rfl), (.ptr rfl), (.ptr rfl), (.ptr rfl), (.ptr rfl), (.ptr rfl), (.free rfl), trivial⟩
      refine tri_region ?_
      refine s_loadR rfl rfl rfl rfl ty43 rfl rfl rfl ?_
      refine m1 ?_
      refine bnd2_elim h fun x32 x33 q34 h => ?_
      refine grd_elim h fun g35 h => ?_
      refine s_callMr (R := fam 39 10000 (List.map mEntryG x17.l) ++ []) (A := [((3, 0), some ⟨38, 2, [[.sc (.int .i64 p0.cap), .lst 6 (List.map mEntryV p0.l)]], false, true⟩), ((5, 0), some ⟨26, 6, [[.sc (.string p2.q.name), .sc (.int .i64 p2.q.ty), .sc (.int .i64 p2.kind), .lst 6 (List.map recV p2.l), .sc (.int .i64 p2.rank), .sc (.int .i64 p2.til)]], false, true⟩), ((8, 0), some ⟨43, 2, [[.sc (.int .i64 x11.cap), .ref (31, 1) 0 x11.l.length]], false, true⟩), ((31, 1), some ⟨32, 6, List.map mEntryV x11.l, false, true⟩), ((9, 0), some ⟨43, 2, [[.sc (.int .i64 x13.cap), .ref (33, 1) 0 x13.l.length]], false, true⟩), ((33, 1), some ⟨32, 6, nr 33 mEntryN 10000 x13.l, false, true⟩), ((10, 0), some ⟨32, 6, [[.sc (.string x15.q.name), .sc (.int .i64 x15.q.ty), .sc (.int .i64 x15.kind), .ref (35, 3) 0 x15.l.length, .sc (.int .i64 x15.rank), .sc (.int .i64 x15.til)]], false, true⟩), ((35, 3), some ⟨60, 6, List.map recV x15.l, false, true⟩), ((11, 0), some ⟨43, 2, [[.sc (.int .i64 x17.cap), .ref (39, 1) 0 x17.l.length]], false, true⟩), ((39, 1), some ⟨32, 6, nr 39 mEntryN 10000 x17.l, false, true⟩)]) (l := x13.l) (l' := x33) (gm := mEntryG) (fN := mEntryN) (dn := (33, 1)) (a := 33) (b := 10000) (s := false) (mi := true) rfl rfl cl36 (wRw_markCache x13 1 x32 x33 q34) g35 rfl (.cons (relAggL (.cons (.free rfl) (.cons (.refOwn rfl) .nil))) (.cons (.free rfl) .nil)) rfl (fun j => rfl) (fun k => rfl) mEntryN_z (fun x hm => (.cons (.free rfl) (.cons (.free rfl) (.cons (.free rfl) (.cons (.refOwn hm) (.cons (.free rfl) (.cons (.free rfl) .nil))))))) (fun x hm => (.cons retSc (.cons retSc (.cons retSc (.cons (.inn hm) (.cons retSc (.cons retSc .nil))))))) (fun x => allSc_map recV_sc) mEntryG_f mEntryG_z (fun _ _ => rfl) rfl rfl rfl rfl ?_
      refine m2 ?_
      refine rt_nil ?_
      refine tri_sr ?_
      refine s_loadR rfl rfl rfl rfl ty32 rfl rfl rfl ?_
      refine m1 ?_
      refine bnd2_elim h fun x36 x37 q38 h => ?_
      refine grd_elim h fun g39 h => ?_
      refine s_callN (kb := []) (ns := [(35, 3)]) (v := .sc (.int .i64 x36)) rfl rfl cl37 (ww_markEntry x15 x32 x36 x37 q38) rfl (.cons (relAggL (.cons (.free rfl) (.cons (.free rfl) (.cons (.free rfl) (.cons (.refOwn rfl) (.cons (.free rfl) (.cons (.free rfl) .nil))))))) (.cons (.free rfl) .nil)) ⟨⟨_, rfl, rfl⟩, trivial⟩ (memCons (allFree_map recV_free) memNil) (List.nodup_cons.2 ⟨List.not_mem_nil, .nil⟩) memNil rfl trivial (memCons (allSc_map recV_sc) memNil) rfl rfl rfl rfl rfl rfl ?_
      refine m2 ?_
      refine rt_nil ?_
      refine tri_seq ?_
      refine tri_cutI (ι := { p : Bool // w_FnExactKeep_j0 p0 p1 p2 x11 x17 p = some r0 }) (fun p => inv_w_FnExactKeep_0 p0 p1 p2 x11 x17 p.1) ?_ ?_
      ·skip
       refine tri_region ?_
       refine m1 ?_
       refine s_of (st_lss rfl rfl rfl) rfl rfl rfl rfl ?_
       refine m1 ?_
       refine s_split (t := 62) rfl (fun b40 => ?_) (fun b40 => ?_)
       ·replace h := cond_t h b40
        refine s_skip rfl rfl rfl ?_
        refine s_skip rfl rfl rfl ?_
        refine s_skip rfl rfl rfl ?_
        refine s_skip rfl rfl rfl ?_
        refine s_pickT rfl rfl (v := .sc (.bool true)) rfl rfl rfl rfl ?_
        refine rt_nil ?_
        refine Exists.intro ⟨true, h⟩ ?_
        refine entK (items := [((3, 0), ⟨38, 2, [[.sc (.int .i64 p0.cap), .lst 6 (List.map mEntryV p0.l)]], false, true⟩, some (3, 0)), ((5, 0), ⟨26, 6, [[.sc (.string p2.q.name), .sc (.int .i64 p2.q.ty), .sc (.int .i64 p2.kind), .lst 6 (List.map recV p2.l), .sc (.int .i64 p2.rank), .sc (.int .i64 p2.til)]], false, true⟩, some (5, 0)), ((8, 0), ⟨43, 2, [[.sc (.int .i64 x11.cap), .ref (31, 1) 0 x11.l.length]], false, true⟩, some (8, 0)), ((31, 1), ⟨32, 6, List.map mEntryV x11.l, false, true⟩, some (31, 1)), ((11, 0), ⟨43, 2, [[.sc (.int .i64 x17.cap), .ref (39, 1) 0 x17.l.length]], false, true⟩, some (11, 0)), ((39, 1), ⟨32, 6, nr 39 mEntryN 10000 x17.l, false, true⟩, some (39, 1))]) (D := []) (a := 39) (b := 10000) (l := x17.l) (g := mEntryG) ⟨⟨rfl, _, rfl, rfl, rfl, rfl, id, rowsCv_one (.cons (.free rfl) (.cons (.free rfl) .nil)), rowsZ_one rfl⟩, ⟨rfl, _, rfl, rfl, rfl, rfl, id, rowsCv_one (.cons (.free rfl) (.cons (.free rfl) (.cons (.free rfl) (.cons (.free rfl) (.cons (.free rfl) (.cons (.free rfl) .nil)))))), rowsZ_one rfl⟩, ⟨rfl, _, rfl, rfl, rfl, rfl, id, rowsCv_one (.cons (.free rfl) (.cons (.ref rfl) .nil)), rowsZ_one rfl⟩, ⟨rfl, _, rfl, rfl, rfl, rfl, id, rowsCv_eq rfl (allFree_map mEntryV_free), rowsZ_map mEntryV_len⟩, ⟨rfl, _, rfl, rfl, rfl, rfl, id, rowsCv_one (.cons (.free rfl) (.cons (.ref rfl) .nil)), rowsZ_one rfl⟩, ⟨rfl, _, rfl, rfl, rfl, rfl, id, rowsCv_fam (fun x h => mEntryN_cv x h), nr_rowsZ mEntryN_z⟩, trivial⟩ trivial rfl rfl rfl rfl (fun j y hy => (by repeat (first | exact fam_lk (by rw [List.getElem?_map, hy]; rfl) | refine lkTo rfl ?_ | refine famTo rfl ?_))) mEntryG_f mEntryG_z (fun j => (by repeat (first | exact rfl | exact famNo rfl rfl | refine lkNo rfl ?_ | refine famNo rfl ?_))) ?_
        exact ⟨(.free rfl), (.ptr rfl), (.ptr rfl), (.ptr rfl), (.ptr rfl), (.free rfl), trivial⟩
       ·replace h := cond_f h b40
        refine s_loadR rfl rfl rfl rfl ty43 rfl rfl rfl ?_
        refine s_loadR rfl rfl rfl rfl ty43 rfl rfl rfl ?_
        refine bnd1_elim h fun x41 q42 h => ?_
        refine s_callN (kb := [(39, 1), (31, 1)] ++ famN 39 10000 x17.l.length) (ns := []) (v := .sc (.bool x41)) rfl rfl cl18 (ww_eqCache x17 x11 x41 q42) rfl (.cons (relAggL (.cons (.free rfl) (.cons (lendN (a := 39) (b := 10000) (f := mEntryN) (g := mEntryG) rfl (List.mem_append_left _ (.head _)) rfl (fun i x hx => ⟨List.mem_append_right _ (famN_iff.2 ⟨i, (List.getElem?_eq_some_iff.1 hx).1, rfl⟩), (by repeat (first | exact fam_lk (by rw [List.getElem?_map, hx]; rfl) | refine lkTo rfl ?_ | refine famTo rfl ?_))⟩) (fun m x hm hl => (.cons (.free rfl) (.cons (.free rfl) (.cons (.free rfl) (.cons (lendL hl hm rfl recV_free recV_len) (.cons (.free rfl) (.cons (.free rfl) .nil))))))) mEntryV_free mEntryV_len) .nil))) (.cons (relAggL (.cons (.free rfl) (.cons (lendL rfl (List.mem_append_left _ (.tail _ (.head _))) rfl mEntryV_free mEntryV_len) .nil))) .nil)) trivial memNil .nil (fun _ _ => List.not_mem_nil) rfl trivial memNil rfl rfl rfl rfl rfl rfl ?_
        refine s_of (st_not rfl rfl) rfl rfl rfl rfl ?_
        refine s_pickF rfl rfl (by conv => lhs; whnf) rfl rfl rfl ?_
        refine rt_nil ?_
        refine Exists.intro ⟨!x41, h⟩ ?_
        refine entK (items := [((3, 0), ⟨38, 2, [[.sc (.int .i64 p0.cap), .lst 6 (List.map mEntryV p0.l)]], false, true⟩, some (3, 0)), ((5, 0), ⟨26, 6, [[.sc (.string p2.q.name), .sc (.int .i64 p2.q.ty), .sc (.int .i64 p2.kind), .lst 6 (List.map recV p2.l), .sc (.int .i64 p2.rank), .sc (.int .i64 p2.til)]], false, true⟩, some (5, 0)), ((8, 0), ⟨43, 2, [[.sc (.int .i64 x11.cap), .ref (31, 1) 0 x11.l.length]], false, true⟩, some (8, 0)), ((31, 1), ⟨32, 6, List.map mEntryV x11.l, false, true⟩, some (31, 1)), ((11, 0), ⟨43, 2, [[.sc (.int .i64 x17.cap), .ref (39, 1) 0 x17.l.length]], false, true⟩, some (11, 0)), ((39, 1), ⟨32, 6, nr 39 mEntryN 10000 x17.l, false, true⟩, some (39, 1))]) (D := []) (a := 39) (b := 10000) (l := x17.l) (g := mEntryG) ⟨⟨rfl, _, rfl, rfl, rfl, rfl, id, rowsCv_one (.cons (.free rfl) (.cons (.free rfl) .nil)), rowsZ_one rfl⟩, ⟨rfl, _, rfl, rfl, rfl, rfl, id, rowsCv_one (.cons (.free rfl) (.cons (.free rfl) (.cons (.free rfl) (.cons (.free rfl) (.cons (.free rfl) (.cons (.free rfl) .nil)))))), rowsZ_one rfl⟩, ⟨rfl, _, rfl, rfl, rfl, rfl, id, rowsCv_one (.cons (.free rfl) (.cons (.ref rfl) .nil)), rowsZ_one rfl⟩, ⟨rfl, _, rfl, rfl, rfl, rfl, id, rowsCv_eq rfl (allFree_map mEntryV_free), rowsZ_map mEntryV_len⟩, ⟨rfl, _, rfl, rfl, rfl, rfl, id, rowsCv_one (.cons (.free rfl) (.cons (.ref rfl) .nil)), rowsZ_one rfl⟩, ⟨rfl, _, rfl, rfl, rfl, rfl, id, rowsCv_fam (fun x h => mEntryN_cv x h), nr_rowsZ mEntryN_z⟩, trivial⟩ trivial rfl rfl rfl rfl (fun j y hy => (by repeat (first | exact fam_lk (by rw [List.getElem?_map, hy]; rfl) | refine lkTo rfl ?_ | refine famTo rfl ?_))) mEntryG_f mEntryG_z (fun j => (by repeat (first | exact rfl | exact famNo rfl rfl | refine lkNo rfl ?_ | refine famNo rfl ?_))) ?_
        exact ⟨(.free rfl), (.ptr rfl), (.ptr rfl), (.ptr rfl), (.ptr rfl), (.free rfl), trivial⟩
      ·rintro ⟨j0_0, h⟩
       replace h : w_FnExactKeep_j0 p0 p1 p2 x11 x17 j0_0 = some r0 := h
       unfold w_FnExactKeep_j0 at h
       show Tri _ _ _ (inv_w_FnExactKeep_0 p0 p1 p2 x11 x17 j0_0)
       refine tri_cond rfl (fun c40 => ?_) (fun c40 => ?_)
       ·replace h := cond_t h c40
        refine tri_sr ?_
        refine s_mv (.inr rfl) (v := .sc (.bool false)) rfl rfl rfl rfl ?_
        refine rt_nil ?_
        refine tri_ret ?_
        have e0 := (some1 h); subst e0
        exact endY [] [] (rvC (resTmp rfl) rvN) trivial trivial rfl (by repeat (first | exact itb_nil | refine itb_cons rfl ?_ | refine itb_fam rfl ?_)) rfl rfl (.free rfl)
       ·replace h := cond_f h c40
        refine tri_skip ?_
        refine tri_sr ?_
        refine s_mv (.inr rfl) (v := .sc (.int .i64 1)) rfl rfl rfl rfl ?_
        refine rt_nil ?_
        refine tri_seq ?_
        refine Tri.ent (st' := mkT 97 [(1, .sc (.int .i64 p1)), (3, .ptr (3, 0) 0 0), (5, .ptr (5, 0) 0 0), (8, .ptr (8, 0) 0 0), (11, .ptr (11, 0) 0 0), (13, .sc (.int .i64 1))] ([((3, 0), some ⟨38, 2, [[.sc (.int .i64 p0.cap), .lst 6 (List.map mEntryV p0.l)]], false, true⟩), ((5, 0), some ⟨26, 6, [[.sc (.string p2.q.name), .sc (.int .i64 p2.q.ty), .sc (.int .i64 p2.kind), .lst 6 (List.map recV p2.l), .sc (.int .i64 p2.rank), .sc (.int .i64 p2.til)]], false, true⟩), ((8, 0), some ⟨43, 2, [[.sc (.int .i64 x11.cap), .ref (31, 1) 0 x11.l.length]], false, true⟩), ((31, 1), some ⟨32, 6, List.map mEntryV x11.l, false, true⟩), ((11, 0), some ⟨43, 2, [[.sc (.int .i64 x17.cap), .ref (39, 1) 0 x17.l.length]], false, true⟩), ((39, 1), some ⟨32, 6, nr 39 mEntryN 10000 x17.l, false, true⟩)] ++ (fam 39 10000 (List.map mEntryG x17.l) ++ []))) ?_ ?_
        ·skip
         refine entK (items := [((3, 0), ⟨38, 2, [[.sc (.int .i64 p0.cap), .lst 6 (List.map mEntryV p0.l)]], false, true⟩, some (3, 0)), ((5, 0), ⟨26, 6, [[.sc (.string p2.q.name), .sc (.int .i64 p2.q.ty), .sc (.int .i64 p2.kind), .lst 6 (List.map recV p2.l), .sc (.int .i64 p2.rank), .sc (.int .i64 p2.til)]], false, true⟩, some (5, 0)), ((8, 0), ⟨43, 2, [[.sc (.int .i64 x11.cap), .ref (31, 1) 0 x11.l.length]], false, true⟩, some (8, 0)), ((31, 1), ⟨32, 6, List.map mEntryV x11.l, false, true⟩, some (31, 1)), ((11, 0), ⟨43, 2, [[.sc (.int .i64 x17.cap), .ref (39, 1) 0 x17.l.length]], false, true⟩, some (11, 0)), ((39, 1), ⟨32, 6, nr 39 mEntryN 10000 x17.l, false, true⟩, some (39, 1))]) (D := []) (a := 39) (b := 10000) (l := x17.l) (g := mEntryG) ⟨⟨rfl, _, rfl, rfl, rfl, rfl, id, rowsCv_one (.cons (.free rfl) (.cons (.free rfl) .nil)), rowsZ_one rfl⟩, ⟨rfl, _, rfl, rfl, rfl, rfl, id, rowsCv_one (.cons (.free rfl) (.cons (.free rfl) (.cons (.free rfl) (.cons (.free rfl) (.cons (.free rfl) (.cons (.free rfl) .nil)))))), rowsZ_one rfl⟩, ⟨rfl, _, rfl, rfl, rfl, rfl, id, rowsCv_one (.cons (.free rfl) (.cons (.ref rfl) .nil)), rowsZ_one rfl⟩, ⟨rfl, _, rfl, rfl, rfl, rfl, id, rowsCv_eq rfl (allFree_map mEntryV_free), rowsZ_map mEntryV_len⟩, ⟨rfl, _, rfl, rfl, rfl, rfl, id, rowsCv_one (.cons (.free rfl) (.cons (.ref rfl) .nil)), rowsZ_one rfl⟩, ⟨rfl, _, rfl, rfl, rfl, rfl, id, rowsCv_fam (fun x h => mEntryN_cv x h), nr_rowsZ mEntryN_z⟩, trivial⟩ trivial rfl rfl rfl rfl (fun j y hy => (by repeat (first | exact fam_lk (by rw [List.getElem?_map, hy]; rfl) | refine lkTo rfl ?_ | refine famTo rfl ?_))) mEntryG_f mEntryG_z (fun j => (by repeat (first | exact rfl | exact famNo rfl rfl | refine lkNo rfl ?_ | refine famNo rfl ?_))) ?_
         exact ⟨(.free rfl), (.ptr rfl), (.ptr rfl), (.ptr rfl), (.ptr rfl), (.free rfl), trivial⟩
        refine tri_region ?_
        refine s_loadR rfl rfl rfl rfl ty43 rfl rfl rfl ?_
        refine m1 ?_
        refine bnd2_elim h fun x41 x42 q43 h => ?_
        refine grd_elim h fun g44 h => ?_
        refine s_callMn (A := [((3, 0), some ⟨38, 2, [[.sc (.int .i64 p0.cap), .lst 6 (List.map mEntryV p0.l)]], false, true⟩), ((5, 0), some ⟨26, 6, [[.sc (.string p2.q.name), .sc (.int .i64 p2.q.ty), .sc (.int .i64 p2.kind), .lst 6 (List.map recV p2.l), .sc (.int .i64 p2.rank), .sc (.int .i64 p2.til)]], false, true⟩), ((8, 0), some ⟨43, 2, [[.sc (.int .i64 x11.cap), .ref (31, 1) 0 x11.l.length]], false, true⟩), ((31, 1), some ⟨32, 6, List.map mEntryV x11.l, false, true⟩), ((11, 0), some ⟨43, 2, [[.sc (.int .i64 x17.cap), .ref (39, 1) 0 x17.l.length]], false, true⟩), ((39, 1), some ⟨32, 6, nr 39 mEntryN 10000 x17.l, false, true⟩)]) (l := x17.l) (l' := x42) (gm := mEntryG) (fN := mEntryN) (dn := (39, 1)) (a := 39) (b := 10000) (s := false) (mi := true) rfl rfl cl36 (wRw_markCache x17 1 x41 x42 q43) g44 rfl (.cons (relAggL (.cons (.free rfl) (.cons (.refOwn rfl) .nil))) (.cons (.free rfl) .nil)) rfl (fun j => rfl) (fun k => rfl) mEntryN_z (fun x hm => (.cons (.free rfl) (.cons (.free rfl) (.cons (.free rfl) (.cons (.refOwn hm) (.cons (.free rfl) (.cons (.free rfl) .nil))))))) (fun x hm => (.cons retSc (.cons retSc (.cons retSc (.cons (.inn hm) (.cons retSc (.cons retSc .nil))))))) (fun x => allSc_map recV_sc) mEntryG_f mEntryG_z (fun _ _ => rfl) rfl rfl rfl rfl ?_
        refine m2 ?_
        refine rt_nil ?_
        refine tri_sr ?_
        refine s_mv (.inr rfl) (v := .sc (.int .i64 1)) rfl rfl rfl rfl ?_
        refine rt_nil ?_
        refine tri_sr ?_
        refine s_loadR rfl rfl rfl rfl ty43 rfl rfl rfl ?_
        refine m1 ?_
        refine bnd1_elim h fun x45 q46 h => ?_
        refine s_callN (kb := [(39, 1)] ++ famN 39 10000 x42.length) (ns := []) (v := .sc (.int .i64 x45)) rfl rfl cl38 (ww_heldCache (MCache.mk x17.cap x42) 1 x45 q46) rfl (.cons (relAggL (.cons (.free rfl) (.cons (lendN (a := 39) (b := 10000) (f := mEntryN) (g := mEntryG) rfl (List.mem_append_left _ (.head _)) (by simp only [List.length_set, g44]) (fun i x hx => ⟨List.mem_append_right _ (famN_iff.2 ⟨i, (List.getElem?_eq_some_iff.1 hx).1, rfl⟩), (by repeat (first | exact fam_lk (by rw [List.getElem?_map, hx]; rfl) | refine lkTo rfl ?_ | refine famTo rfl ?_))⟩) (fun m x hm hl => (.cons (.free rfl) (.cons (.free rfl) (.cons (.free rfl) (.cons (lendL hl hm rfl recV_free recV_len) (.cons (.free rfl) (.cons (.free rfl) .nil))))))) mEntryV_free mEntryV_len) .nil))) (.cons (.free rfl) .nil)) trivial memNil .nil (fun _ _ => List.not_mem_nil) rfl trivial memNil rfl rfl rfl rfl rfl rfl ?_
        refine m2 ?_
        refine rt_nil ?_
        refine tri_seq ?_
        refine tri_sr ?_
        refine m1 ?_
        refine s_of (st_lss rfl rfl rfl) rfl rfl rfl rfl ?_
        refine rt_nil ?_
        refine tri_cond rfl (fun c47 => ?_) (fun c47 => ?_)
        ·replace h := cond_t h c47
         refine tri_sr ?_
         refine s_mv (.inr rfl) (v := .sc (.bool false)) rfl rfl rfl rfl ?_
         refine rt_nil ?_
         refine tri_ret ?_
         have e0 := (some1 h); subst e0
         exact endY [] [] (rvC (resTmp rfl) rvN) trivial trivial rfl (by repeat (first | exact itb_nil | refine itb_cons rfl ?_ | refine itb_fam rfl ?_)) rfl rfl (.free rfl)
        ·replace h := cond_f h c47
         refine tri_skip ?_
         refine tri_seq ?_
         refine tri_sr ?_
         refine m1 ?_
         refine m1 ?_
         refine s_of (st_neI rfl rfl rfl) rfl rfl rfl rfl ?_
         refine rt_nil ?_
         refine tri_cond rfl (fun c48 => ?_) (fun c48 => ?_)
         ·replace h := cond_t h c48
          refine tri_sr ?_
          refine s_mv (.inr rfl) (v := .sc (.bool false)) rfl rfl rfl rfl ?_
          refine rt_nil ?_
          refine tri_ret ?_
          have e0 := (some1 h); subst e0
          exact endY [] [] (rvC (resTmp rfl) rvN) trivial trivial rfl (by repeat (first | exact itb_nil | refine itb_cons rfl ?_ | refine itb_fam rfl ?_)) rfl rfl (.free rfl)
         ·replace h := cond_f h c48
          refine tri_skip ?_
          refine tri_seq ?_
          refine tri_draw mixed ?_
          refine s_loadR rfl rfl rfl rfl ty38 rfl rfl rfl ?_
          refine bnd1_elim h fun x49 q50 h => ?_
          refine s_callZ (kb := []) (ns := []) (v := .agg [.sc (.int .i64 x49.cap), .ref (80, 1) 0 x49.l.length]) rfl rfl cl16 (ww_toCache p0 x49 q50) rfl (.cons (relAgg rfl) .nil) trivial memNil .nil memNil trivial rfl ⟨(allFree_map mEntryV_free), trivial⟩ memNil (habC (by repeat (first | exact rfl | exact famNo rfl rfl | refine lkNo rfl ?_ | refine famNo rfl ?_)) habN) (by simp only [V.mat, V.mat1, V.mat0, matL, matT, List.length_map] <;> rfl) rfl rfl rfl rfl ?_
          refine m1 ?_
          refine s_loadR rfl rfl rfl rfl ty26 rfl rfl rfl ?_
          refine bnd1_elim h fun x51 q52 h => ?_
          refine s_callN (kb := []) (ns := []) (v := .agg [.sc (.string x51.q.name), .sc (.int .i64 x51.q.ty), .sc (.int .i64 x51.kind), .ref (83, 3) 0 x51.l.length, .sc (.int .i64 x51.rank), .sc (.int .i64 x51.til)]) rfl rfl cl11 (ww_toEntry p2 x51 q52) rfl (.cons (relAgg rfl) .nil) trivial memNil .nil memNil rfl ⟨(allSc_map recV_sc), trivial⟩ memNil (habC (by repeat (first | exact rfl | exact famNo rfl rfl | refine lkNo rfl ?_ | refine famNo rfl ?_)) habN) (by simp only [V.mat, V.mat1, V.mat0, matL, matT, List.length_map] <;> rfl) rfl rfl rfl rfl ?_
          refine bnd1_elim h fun x53 q54 h => ?_
          refine s_callZ (kb := [(80, 1), (83, 3)]) (ns := []) (v := .agg [.sc (.int .i64 x53.cap), .ref (84, 1) 0 x53.l.length]) rfl rfl cl33 (wi_Keep x49 p1 x51 x53 q54) rfl (.cons (relAggL (.cons (.free rfl) (.cons (lendL rfl (.head _) rfl mEntryV_free mEntryV_len) .nil))) (.cons (.free rfl) (.cons (relAggL (.cons (.free rfl) (.cons (.free rfl) (.cons (.free rfl) (.cons (lendL rfl (.tail _ (.head _)) rfl recV_free recV_len) (.cons (.free rfl) (.cons (.free rfl) .nil))))))) .nil))) trivial memNil .nil (fun _ _ => List.not_mem_nil) ⟨⟨_, rfl, rfl⟩, ⟨⟨_, rfl, rfl⟩, trivial⟩⟩ rfl ⟨(allFree_map mEntryV_free), trivial⟩ memNil (habC (by repeat (first | exact rfl | exact famNo rfl rfl | refine lkNo rfl ?_ | refine famNo rfl ?_)) habN) (by simp only [V.mat, V.mat1, V.mat0, matL, matT, List.length_map] <;> rfl) rfl rfl rfl rfl ?_
          refine s_alloc rfl rfl (by repeat (first | exact rfl | exact famNo rfl rfl | refine lkNo rfl ?_ | refine famNo rfl ?_)) zc43 rfl rfl rfl rfl rfl ?_
          refine s_storeB rfl rfl rfl ty43 rfl rfl rfl rfl rfl ?_
          refine rt_nil ⟨by kernel_rfl, ?_⟩
          refine tri_seq ?_
          refine tri_sr ?_
          refine s_loadR rfl rfl rfl rfl ty43 rfl rfl rfl ?_
          refine s_loadR rfl rfl rfl rfl ty43 rfl rfl rfl ?_
          refine bnd1_elim h fun x55 q56 h => ?_
          refine s_callN (kb := [(84, 1), (31, 1)]) (ns := []) (v := .sc (.bool x55)) rfl rfl cl18 (ww_eqCache x53 x11 x55 q56) rfl (.cons (relAggL (.cons (.free rfl) (.cons (lendL rfl (.head _) rfl mEntryV_free mEntryV_len) .nil))) (.cons (relAggL (.cons (.free rfl) (.cons (lendL rfl (.tail _ (.head _)) rfl mEntryV_free mEntryV_len) .nil))) .nil)) trivial memNil .nil (fun _ _ => List.not_mem_nil) rfl trivial memNil rfl rfl rfl rfl rfl rfl ?_
          refine s_of (st_not rfl rfl) rfl rfl rfl rfl ?_
          refine rt_nil ?_
          refine tri_cond rfl (fun c57 => ?_) (fun c57 => ?_)
          ·replace h := cond_t h c57
           refine tri_sr ?_
           refine s_mv (.inr rfl) (v := .sc (.bool false)) rfl rfl rfl rfl ?_
           refine rt_nil ?_
           refine tri_ret ?_
           have e0 := (some1 h); subst e0
           exact endY [] [] (rvC (resTmp rfl) rvN) trivial trivial rfl (by repeat (first | exact itb_nil | refine itb_cons rfl ?_ | refine itb_fam rfl ?_)) rfl rfl (.free rfl)
          ·replace h := cond_f h c57
           refine tri_skip ?_
           refine tri_sr ?_
           refine s_mv (.inr rfl) (v := .sc (.int .i64 1)) rfl rfl rfl rfl ?_
           refine rt_nil ?_
           refine tri_sr ?_
           refine s_loadR rfl rfl rfl rfl ty43 rfl rfl rfl ?_
           refine m1 ?_
           refine bnd1_elim h fun x58 q59 h => ?_
           refine s_callN (kb := [(39, 1)] ++ famN 39 10000 x42.length) (ns := []) (v := .sc (.int .i64 x58)) rfl rfl cl38 (ww_heldCache (MCache.mk x17.cap x42) 1 x58 q59) rfl (.cons (relAggL (.cons (.free rfl) (.cons (lendN (a := 39) (b := 10000) (f := mEntryN) (g := mEntryG) rfl (List.mem_append_left _ (.head _)) (by simp only [List.length_set, g44]) (fun i x hx => ⟨List.mem_append_right _ (famN_iff.2 ⟨i, (List.getElem?_eq_some_iff.1 hx).1, rfl⟩), (by repeat (first | exact fam_lk (by rw [List.getElem?_map, hx]; rfl) | refine lkTo rfl ?_ | refine famTo rfl ?_))⟩) (fun m x hm hl => (.cons (.free rfl) (.cons (.free rfl) (.cons (.free rfl) (.cons (lendL hl hm rfl recV_free recV_len) (.cons (.free rfl) (.cons (.free rfl) .nil))))))) mEntryV_free mEntryV_len) .nil))) (.cons (.free rfl) .nil)) trivial memNil .nil (fun _ _ => List.not_mem_nil) rfl trivial memNil rfl rfl rfl rfl rfl rfl ?_
           refine m2 ?_
           refine rt_nil ?_
           refine tri_seq ?_
           refine tri_sr ?_
           refine m1 ?_
           refine s_of (st_lss rfl rfl rfl) rfl rfl rfl rfl ?_
           refine rt_nil ?_
           refine tri_cond rfl (fun c60 => ?_) (fun c60 => ?_)
           ·replace h := cond_t h c60
            refine tri_sr ?_
            refine s_mv (.inr rfl) (v := .sc (.bool false)) rfl rfl rfl rfl ?_
            refine rt_nil ?_
            refine tri_ret ?_
            have e0 := (some1 h); subst e0
            exact endY [] [] (rvC (resTmp rfl) rvN) trivial trivial rfl (by repeat (first | exact itb_nil | refine itb_cons rfl ?_ | refine itb_fam rfl ?_)) rfl rfl (.free rfl)
           ·replace h := cond_f h c60
            refine tri_skip ?_
            refine tri_seq ?_
            refine tri_sr ?_
            refine m1 ?_
            refine m1 ?_
            refine s_of (st_neI rfl rfl rfl) rfl rfl rfl rfl ?_
            refine rt_nil ?_
            refine tri_cond rfl (fun c61 => ?_) (fun c61 => ?_)
            ·replace h := cond_t h c61
             refine tri_sr ?_
             refine s_mv (.inr rfl) (v := .sc (.bool false)) rfl rfl rfl rfl ?_
             refine rt_nil ?_
             refine tri_ret ?_
             have e0 := (some1 h); subst e0
             exact endY [] [] (rvC (resTmp rfl) rvN) trivial trivial rfl (by repeat (first | exact itb_nil | refine itb_cons rfl ?_ | refine itb_fam rfl ?_)) rfl rfl (.free rfl)
            ·replace h := cond_f h c61
             refine tri_skip ?_
             refine tri_sr ?_
             refine s_mv (.inr rfl) (v := .sc (.bool true)) rfl rfl rfl rfl ?_
             refine rt_nil ?_
             refine tri_ret ?_
             have e0 := (some1 h); subst e0
             exact endY [] [] (rvC (resTmp rfl) rvN) trivial trivial rfl (by repeat (first | exact itb_nil | refine itb_cons rfl ?_ | refine itb_fam rfl ?_)) rfl rfl (.free rfl)

end Go.Abs.M
