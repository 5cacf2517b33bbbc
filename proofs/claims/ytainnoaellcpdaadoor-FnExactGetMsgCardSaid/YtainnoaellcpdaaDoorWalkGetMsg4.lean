/- Walks of the functions that the law of GetMsg reaches: what each of them computes, where its pure function does not fail. -/
import Derived.Test.YtainnoaellcpdaaDoorWalkGetMsg3
set_option linter.unusedSimpArgs false
set_option linter.unusedVariables false
namespace Go.Abs.M
open Go Go.Abs Go.Proofs
theorem cl10 : callable Tryd.prog 10 = true := by kernel_rfl
theorem cl11 : callable Tryd.prog 11 = true := by kernel_rfl
theorem cl12 : callable Tryd.prog 12 = true := by kernel_rfl
theorem cl13 : callable Tryd.prog 13 = true := by kernel_rfl
theorem cl14 : callable Tryd.prog 14 = true := by kernel_rfl
theorem cl15 : callable Tryd.prog 15 = true := by kernel_rfl
theorem cl6 : callable Tryd.prog 6 = true := by kernel_rfl
theorem cl9 : callable Tryd.prog 9 = true := by kernel_rfl
/- laws.FnExactGetMsg -/
def inv_w_FnExactGetMsg_2 (x9 : MMsg) (x23 : Int) (x24 : List Rec) (x25 : List Rec) (x26 : List Rec) (j2_0 : Bool) : St := mkT 93 [(6, .ptr (6, 0) 0 0), (9, .sc (.int .i64 x23)), (84, .sc (.bool j2_0))] [((6, 0), some ⟨33, 12, [[.sc (.int .i64 x9.id), .sc (.bool x9.reply), .sc (.bool x9.auth), .sc (.bool x9.cut), .sc (.bool x9.want), .sc (.bool x9.can), .sc (.int .i64 x9.code), .sc (.string x9.q.name), .sc (.int .i64 x9.q.ty), .ref (26, 109) 0 x24.length, .ref (26, 110) 0 x25.length, .ref (26, 111) 0 x26.length]], false, true⟩), ((26, 109), some ⟨62, 6, List.map recV x24, false, true⟩), ((26, 110), some ⟨62, 6, List.map recV x25, false, true⟩), ((26, 111), some ⟨62, 6, List.map recV x26, false, true⟩)]
def inv_w_FnExactGetMsg_1 (p0 : List Int) (x4 : MMsg) (x5 : Bool) (x9 : MMsg) (j1_0 : Bool) : St := mkT 93 [(0, .lst 1 (List.map byteV p0)), (3, .ptr (3, 0) 0 0), (4, .sc (.bool x5)), (6, .ptr (6, 0) 0 0), (58, .sc (.bool j1_0))] [((3, 0), some ⟨33, 12, [[.sc (.int .i64 x4.id), .sc (.bool x4.reply), .sc (.bool x4.auth), .sc (.bool x4.cut), .sc (.bool x4.want), .sc (.bool x4.can), .sc (.int .i64 x4.code), .sc (.string x4.q.name), .sc (.int .i64 x4.q.ty), .ref (19, 109) 0 x4.an.length, .ref (19, 110) 0 x4.au.length, .ref (19, 111) 0 x4.ad.length]], false, true⟩), ((19, 109), some ⟨62, 6, List.map recV x4.an, false, true⟩), ((19, 110), some ⟨62, 6, List.map recV x4.au, false, true⟩), ((19, 111), some ⟨62, 6, List.map recV x4.ad, false, true⟩), ((6, 0), some ⟨33, 12, [[.sc (.int .i64 x9.id), .sc (.bool x9.reply), .sc (.bool x9.auth), .sc (.bool x9.cut), .sc (.bool x9.want), .sc (.bool x9.can), .sc (.int .i64 x9.code), .sc (.string x9.q.name), .sc (.int .i64 x9.q.ty), .ref (26, 109) 0 x9.an.length, .ref (26, 110) 0 x9.au.length, .ref (26, 111) 0 x9.ad.length]], false, true⟩), ((26, 109), some ⟨62, 6, List.map recV x9.an, false, true⟩), ((26, 110), some ⟨62, 6, List.map recV x9.au, false, true⟩), ((26, 111), some ⟨62, 6, List.map recV x9.ad, false, true⟩)]
def inv_w_FnExactGetMsg_0 (p0 : List Int) (x4 : MMsg) (x5 : Bool) (x7 : List Int) (x9 : MMsg) (x10 : Bool) (j0_0 : Bool) : St := mkT 93 [(0, .lst 1 (List.map byteV p0)), (3, .ptr (3, 0) 0 0), (4, .sc (.bool x5)), (5, .ref (23, 0) 0 x7.length), (6, .ptr (6, 0) 0 0), (7, .sc (.bool x10)), (37, .sc (.bool j0_0))] [((3, 0), some ⟨33, 12, [[.sc (.int .i64 x4.id), .sc (.bool x4.reply), .sc (.bool x4.auth), .sc (.bool x4.cut), .sc (.bool x4.want), .sc (.bool x4.can), .sc (.int .i64 x4.code), .sc (.string x4.q.name), .sc (.int .i64 x4.q.ty), .ref (19, 109) 0 x4.an.length, .ref (19, 110) 0 x4.au.length, .ref (19, 111) 0 x4.ad.length]], false, true⟩), ((19, 109), some ⟨62, 6, List.map recV x4.an, false, true⟩), ((19, 110), some ⟨62, 6, List.map recV x4.au, false, true⟩), ((19, 111), some ⟨62, 6, List.map recV x4.ad, false, true⟩), ((23, 0), some ⟨5, 1, List.map byteV x7, false, true⟩), ((6, 0), some ⟨33, 12, [[.sc (.int .i64 x9.id), .sc (.bool x9.reply), .sc (.bool x9.auth), .sc (.bool x9.cut), .sc (.bool x9.want), .sc (.bool x9.can), .sc (.int .i64 x9.code), .sc (.string x9.q.name), .sc (.int .i64 x9.q.ty), .ref (26, 109) 0 x9.an.length, .ref (26, 110) 0 x9.au.length, .ref (26, 111) 0 x9.ad.length]], false, true⟩), ((26, 109), some ⟨62, 6, List.map recV x9.an, false, true⟩), ((26, 110), some ⟨62, 6, List.map recV x9.au, false, true⟩), ((26, 111), some ⟨62, 6, List.map recV x9.ad, false, true⟩)]
set_option maxRecDepth 4000 in
set_option maxHeartbeats 800000 in
theorem ww_FnExactGetMsg (p0 : List Int) (r0 : Bool) (h : w_FnExactGetMsg p0 = some r0) : Runs Tryd.prog 4 [.lst 1 (List.map byteV p0)] [] (.sc (.bool r0)) [] := by
 unfold w_FnExactGetMsg at h
 refine runsR [.tmp 2] Tryd.func4 rfl rfl rfl rfl ?_
 rw [Tryd.ntmps4]
 refine tri_sr ?_
 refine s_mv (.inr rfl) (v := .sc (.bool false)) rfl rfl rfl rfl ?_
 refine rt_nil ?_
 refine tri_seq ?_
 refine tri_sr ?_
 refine m1 ?_
 refine s_lenL rfl sl22 rfl rfl rfl rfl ?_
 refine s_of (st_gtr rfl rfl rfl) rfl rfl rfl rfl ?_
 refine rt_nil ?_
 refine tri_cond rfl (fun c1 => ?_) (fun c1 => ?_)
 ·replace h := cond_t h c1
  refine tri_sr ?_
  refine s_mv (.inr rfl) (v := .sc (.bool true)) rfl rfl rfl rfl ?_
  refine rt_nil ?_
  refine tri_ret ?_
  have e0 := (some1 h); subst e0
  exact endY [] [] (rvC (resTmp rfl) rvN) trivial trivial rfl rfl rfl rfl (.free rfl)
 ·replace h := cond_f h c1
  refine tri_skip ?_
  refine tri_sr ?_
  refine m1 ?_
  refine bnd1_elim h fun x2 q3 h => ?_
  refine s_callN (kb := []) (ns := []) (v := .ref (18, 0) 0 x2.length) rfl rfl cl6 (ww_toByteS p0 x2 q3) rfl (.cons (.free rfl) .nil) trivial memNil .nil memNil rfl ⟨(allSc_map byteV_sc), trivial⟩ memNil rfl (by simp only [V.mat, V.mat1, V.mat0, matL, matT, List.length_map] <;> rfl) rfl rfl rfl rfl ?_
  refine bnd2_elim h fun x4 x5 q6 h => ?_
  refine s_callN (kb := [(18, 0)]) (ns := []) (v := .tup [.agg [.sc (.int .i64 x4.id), .sc (.bool x4.reply), .sc (.bool x4.auth), .sc (.bool x4.cut), .sc (.bool x4.want), .sc (.bool x4.can), .sc (.int .i64 x4.code), .sc (.string x4.q.name), .sc (.int .i64 x4.q.ty), .ref (19, 109) 0 x4.an.length, .ref (19, 110) 0 x4.au.length, .ref (19, 111) 0 x4.ad.length], .sc (.bool x5)]) rfl rfl cl10 (ws_GetMsg x2 x4 x5 q6) rfl (.cons (lendL rfl (.head _) rfl byteV_free byteV_len) .nil) trivial memNil .nil (fun _ _ => List.not_mem_nil) rfl ⟨(allSc_map recV_sc), ⟨(allSc_map recV_sc), ⟨(allSc_map recV_sc), trivial⟩⟩⟩ memNil rfl (by simp only [V.mat, V.mat1, V.mat0, matL, matT, List.length_map] <;> rfl) rfl rfl rfl rfl ?_
  refine m1 ?_
  refine s_extract rfl rfl rfl rfl rfl rfl ?_
  refine s_extract rfl rfl rfl rfl rfl rfl ?_
  refine s_alloc rfl rfl rfl zc33 rfl rfl rfl rfl rfl ?_
  refine s_storeB rfl rfl rfl ty33 rfl rfl rfl rfl rfl ?_
  refine m2 ?_
  refine rt_nil ?_
  refine tri_sr ?_
  refine m1 ?_
  refine bnd1_elim h fun x7 q8 h => ?_
  refine s_callN (kb := []) (ns := []) (v := .ref (23, 0) 0 x7.length) rfl rfl cl6 (ww_toByteS p0 x7 q8) rfl (.cons (.free rfl) .nil) trivial memNil .nil memNil rfl ⟨(allSc_map byteV_sc), trivial⟩ memNil rfl (by simp only [V.mat, V.mat1, V.mat0, matL, matT, List.length_map] <;> rfl) rfl rfl rfl rfl ?_
  refine m2 ?_
  refine rt_nil ?_
  refine tri_sr ?_
  refine m1 ?_
  refine bnd2_elim h fun x9 x10 q11 h => ?_
  refine s_callN (kb := [(23, 0)]) (ns := []) (v := .tup [.agg [.sc (.int .i64 x9.id), .sc (.bool x9.reply), .sc (.bool x9.auth), .sc (.bool x9.cut), .sc (.bool x9.want), .sc (.bool x9.can), .sc (.int .i64 x9.code), .sc (.string x9.q.name), .sc (.int .i64 x9.q.ty), .ref (26, 109) 0 x9.an.length, .ref (26, 110) 0 x9.au.length, .ref (26, 111) 0 x9.ad.length], .sc (.bool x10)]) rfl rfl cl11 (wi_GetMsg x7 x9 x10 q11) rfl (.cons (lendL rfl (.head _) rfl byteV_free byteV_len) .nil) trivial memNil .nil (fun _ _ => List.not_mem_nil) rfl ⟨(allSc_map recV_sc), ⟨(allSc_map recV_sc), ⟨(allSc_map recV_sc), trivial⟩⟩⟩ memNil rfl (by simp only [V.mat, V.mat1, V.mat0, matL, matT, List.length_map] <;> rfl) rfl rfl rfl rfl ?_
  refine m1 ?_
  refine s_extract rfl rfl rfl rfl rfl rfl ?_
  refine s_extract rfl rfl rfl rfl rfl rfl ?_
  refine s_alloc rfl rfl rfl zc33 rfl rfl rfl rfl rfl ?_
  refine s_storeB rfl rfl rfl ty33 rfl rfl rfl rfl rfl ?_
  refine m2 ?_
  refine rt_nil ?_
  refine tri_seq ?_
  refine tri_cutI (ι := { p : Bool // w_FnExactGetMsg_j0 p0 x4 x5 x7 x9 x10 p = some r0 }) (fun p => inv_w_FnExactGetMsg_0 p0 x4 x5 x7 x9 x10 p.1) ?_ ?_
  ·skip
   refine tri_region ?_
   refine s_loadR rfl rfl rfl rfl ty33 rfl rfl rfl ?_
   refine s_loadR rfl rfl rfl rfl ty33 rfl rfl rfl ?_
   refine bnd1_elim h fun x12 q13 h => ?_
   refine s_callN (kb := [(26, 109), (26, 110), (26, 111), (19, 109), (19, 110), (19, 111)]) (ns := []) (v := .sc (.bool x12)) rfl rfl cl12 (ww_eqMsg x9 x4 x12 q13) rfl (.cons (relAggL (.cons (.free rfl) (.cons (.free rfl) (.cons (.free rfl) (.cons (.free rfl) (.cons (.free rfl) (.cons (.free rfl) (.cons (.free rfl) (.cons (.free rfl) (.cons (.free rfl) (.cons (lendL rfl (.head _) rfl recV_free recV_len) (.cons (lendL rfl (.tail _ (.head _)) rfl recV_free recV_len) (.cons (lendL rfl (.tail _ (.tail _ (.head _))) rfl recV_free recV_len) .nil))))))))))))) (.cons (relAggL (.cons (.free rfl) (.cons (.free rfl) (.cons (.free rfl) (.cons (.free rfl) (.cons (.free rfl) (.cons (.free rfl) (.cons (.free rfl) (.cons (.free rfl) (.cons (.free rfl) (.cons (lendL rfl (.tail _ (.tail _ (.tail _ (.head _)))) rfl recV_free recV_len) (.cons (lendL rfl (.tail _ (.tail _ (.tail _ (.tail _ (.head _))))) rfl recV_free recV_len) (.cons (lendL rfl (.tail _ (.tail _ (.tail _ (.tail _ (.tail _ (.head _)))))) rfl recV_free recV_len) .nil))))))))))))) .nil)) trivial memNil .nil (fun _ _ => List.not_mem_nil) rfl trivial memNil rfl rfl rfl rfl rfl rfl ?_
   refine s_of (st_not rfl rfl) rfl rfl rfl rfl ?_
   refine m1 ?_
   refine s_split (t := 33) rfl (fun b14 => ?_) (fun b14 => ?_)
   ·replace h := cond_t h b14
    refine s_skip rfl rfl rfl ?_
    refine s_skip rfl rfl rfl ?_
    refine s_skip rfl rfl rfl ?_
    refine s_pickT rfl rfl (v := .sc (.bool true)) rfl rfl rfl rfl ?_
    refine rt_nil ?_
    refine Exists.intro ⟨true, h⟩ ?_
    refine entX [((3, 0), ⟨33, 12, [[.sc (.int .i64 x4.id), .sc (.bool x4.reply), .sc (.bool x4.auth), .sc (.bool x4.cut), .sc (.bool x4.want), .sc (.bool x4.can), .sc (.int .i64 x4.code), .sc (.string x4.q.name), .sc (.int .i64 x4.q.ty), .ref (19, 109) 0 x4.an.length, .ref (19, 110) 0 x4.au.length, .ref (19, 111) 0 x4.ad.length]], false, true⟩, some (3, 0)), ((19, 109), ⟨62, 6, List.map recV x4.an, false, true⟩, some (19, 109)), ((19, 110), ⟨62, 6, List.map recV x4.au, false, true⟩, some (19, 110)), ((19, 111), ⟨62, 6, List.map recV x4.ad, false, true⟩, some (19, 111)), ((23, 0), ⟨5, 1, List.map byteV x7, false, true⟩, some (23, 0)), ((6, 0), ⟨33, 12, [[.sc (.int .i64 x9.id), .sc (.bool x9.reply), .sc (.bool x9.auth), .sc (.bool x9.cut), .sc (.bool x9.want), .sc (.bool x9.can), .sc (.int .i64 x9.code), .sc (.string x9.q.name), .sc (.int .i64 x9.q.ty), .ref (26, 109) 0 x9.an.length, .ref (26, 110) 0 x9.au.length, .ref (26, 111) 0 x9.ad.length]], false, true⟩, some (6, 0)), ((26, 109), ⟨62, 6, List.map recV x9.an, false, true⟩, some (26, 109)), ((26, 110), ⟨62, 6, List.map recV x9.au, false, true⟩, some (26, 110)), ((26, 111), ⟨62, 6, List.map recV x9.ad, false, true⟩, some (26, 111))] [] ⟨⟨rfl, _, rfl, rfl, rfl, rfl, id, rowsCv_one (.cons (.free rfl) (.cons (.free rfl) (.cons (.free rfl) (.cons (.free rfl) (.cons (.free rfl) (.cons (.free rfl) (.cons (.free rfl) (.cons (.free rfl) (.cons (.free rfl) (.cons (.ref rfl) (.cons (.ref rfl) (.cons (.ref rfl) .nil)))))))))))), rowsZ_one rfl⟩, ⟨rfl, _, rfl, rfl, rfl, rfl, id, rowsCv_eq rfl (allFree_map recV_free), rowsZ_map recV_len⟩, ⟨rfl, _, rfl, rfl, rfl, rfl, id, rowsCv_eq rfl (allFree_map recV_free), rowsZ_map recV_len⟩, ⟨rfl, _, rfl, rfl, rfl, rfl, id, rowsCv_eq rfl (allFree_map recV_free), rowsZ_map recV_len⟩, ⟨rfl, _, rfl, rfl, rfl, rfl, id, rowsCv_eq rfl (allFree_map byteV_free), rowsZ_map byteV_len⟩, ⟨rfl, _, rfl, rfl, rfl, rfl, id, rowsCv_one (.cons (.free rfl) (.cons (.free rfl) (.cons (.free rfl) (.cons (.free rfl) (.cons (.free rfl) (.cons (.free rfl) (.cons (.free rfl) (.cons (.free rfl) (.cons (.free rfl) (.cons (.ref rfl) (.cons (.ref rfl) (.cons (.ref rfl) .nil)))))))))))), rowsZ_one rfl⟩, ⟨rfl, _, rfl, rfl, rfl, rfl, id, rowsCv_eq rfl (allFree_map recV_free), rowsZ_map recV_len⟩, ⟨rfl, _, rfl, rfl, rfl, rfl, id, rowsCv_eq rfl (allFree_map recV_free), rowsZ_map recV_len⟩, ⟨rfl, _, rfl, rfl, rfl, rfl, id, rowsCv_eq rfl (allFree_map recV_free), rowsZ_map recV_len⟩, trivial⟩ trivial rfl rfl ?_
    exact ⟨(.free rfl), (.ptr rfl), (.free rfl), (.ref rfl), (.ptr rfl), (.free rfl), (.free rfl), trivial⟩
   ·replace h := cond_f h b14
    refine m1 ?_
    refine m1 ?_
    refine s_of (st_neB isb4 rfl rfl rfl) rfl rfl rfl rfl ?_
    refine s_pickF rfl rfl (by conv => lhs; whnf) rfl rfl rfl ?_
    refine rt_nil ?_
    refine Exists.intro ⟨!(x10 == x5), h⟩ ?_
    refine entX [((3, 0), ⟨33, 12, [[.sc (.int .i64 x4.id), .sc (.bool x4.reply), .sc (.bool x4.auth), .sc (.bool x4.cut), .sc (.bool x4.want), .sc (.bool x4.can), .sc (.int .i64 x4.code), .sc (.string x4.q.name), .sc (.int .i64 x4.q.ty), .ref (19, 109) 0 x4.an.length, .ref (19, 110) 0 x4.au.length, .ref (19, 111) 0 x4.ad.length]], false, true⟩, some (3, 0)), ((19, 109), ⟨62, 6, List.map recV x4.an, false, true⟩, some (19, 109)), ((19, 110), ⟨62, 6, List.map recV x4.au, false, true⟩, some (19, 110)), ((19, 111), ⟨62, 6, List.map recV x4.ad, false, true⟩, some (19, 111)), ((23, 0), ⟨5, 1, List.map byteV x7, false, true⟩, some (23, 0)), ((6, 0), ⟨33, 12, [[.sc (.int .i64 x9.id), .sc (.bool x9.reply), .sc (.bool x9.auth), .sc (.bool x9.cut), .sc (.bool x9.want), .sc (.bool x9.can), .sc (.int .i64 x9.code), .sc (.string x9.q.name), .sc (.int .i64 x9.q.ty), .ref (26, 109) 0 x9.an.length, .ref (26, 110) 0 x9.au.length, .ref (26, 111) 0 x9.ad.length]], false, true⟩, some (6, 0)), ((26, 109), ⟨62, 6, List.map recV x9.an, false, true⟩, some (26, 109)), ((26, 110), ⟨62, 6, List.map recV x9.au, false, true⟩, some (26, 110)), ((26, 111), ⟨62, 6, List.map recV x9.ad, false, true⟩, some (26, 111))] [] ⟨⟨rfl, _, rfl, rfl, rfl, rfl, id, rowsCv_one (.cons (.free rfl) (.cons (.free rfl) (.cons (.free rfl) (.cons (.free rfl) (.cons (.free rfl) (.cons (.free rfl) (.cons (.free rfl) (.cons (.free rfl) (.cons (.free rfl) (.cons (.ref rfl) (.cons (.ref rfl) (.cons (.ref rfl) .nil)))))))))))), rowsZ_one rfl⟩, ⟨rfl, _, rfl, rfl, rfl, rfl, id, rowsCv_eq rfl (allFree_map recV_free), rowsZ_map recV_len⟩, ⟨rfl, _, rfl, rfl, rfl, rfl, id, rowsCv_eq rfl (allFree_map recV_free), rowsZ_map recV_len⟩, ⟨rfl, _, rfl, rfl, rfl, rfl, id, rowsCv_eq rfl (allFree_map recV_free), rowsZ_map recV_len⟩, ⟨rfl, _, rfl, rfl, rfl, rfl, id, rowsCv_eq rfl (allFree_map byteV_free), rowsZ_map byteV_len⟩, ⟨rfl, _, rfl, rfl, rfl, rfl, id, rowsCv_one (.cons (.free rfl) (.cons (.free rfl) (.cons (.free rfl) (.cons (.free rfl) (.cons (.free rfl) (.cons (.free rfl) (.cons (.free rfl) (.cons (.free rfl) (.cons (.free rfl) (.cons (.ref rfl) (.cons (.ref rfl) (.cons (.ref rfl) .nil)))))))))))), rowsZ_one rfl⟩, ⟨rfl, _, rfl, rfl, rfl, rfl, id, rowsCv_eq rfl (allFree_map recV_free), rowsZ_map recV_len⟩, ⟨rfl, _, rfl, rfl, rfl, rfl, id, rowsCv_eq rfl (allFree_map recV_free), rowsZ_map recV_len⟩, ⟨rfl, _, rfl, rfl, rfl, rfl, id, rowsCv_eq rfl (allFree_map recV_free), rowsZ_map recV_len⟩, trivial⟩ trivial rfl rfl ?_
    exact ⟨(.free rfl), (.ptr rfl), (.free rfl), (.ref rfl), (.ptr rfl), (.free rfl), (.free rfl), trivial⟩
  ·rintro ⟨j0_0, h⟩
   replace h : w_FnExactGetMsg_j0 p0 x4 x5 x7 x9 x10 j0_0 = some r0 := h
   unfold w_FnExactGetMsg_j0 at h
   show Tri _ _ _ (inv_w_FnExactGetMsg_0 p0 x4 x5 x7 x9 x10 j0_0)
   refine tri_cond rfl (fun c12 => ?_) (fun c12 => ?_)
   ·replace h := cond_t h c12
    refine tri_sr ?_
    refine s_mv (.inr rfl) (v := .sc (.bool false)) rfl rfl rfl rfl ?_
    refine rt_nil ?_
    refine tri_ret ?_
    have e0 := (some1 h); subst e0
    exact endY [] [] (rvC (resTmp rfl) rvN) trivial trivial rfl rfl rfl rfl (.free rfl)
   ·replace h := cond_f h c12
    refine tri_skip ?_
    refine tri_seq ?_
    refine tri_sr ?_
    refine m1 ?_
    refine m1 ?_
    refine bnd1_elim h fun x13 q14 h => ?_
    refine s_callN (kb := []) (ns := []) (v := .ref (40, 0) 0 x13.length) rfl rfl cl6 (ww_toByteS p0 x13 q14) rfl (.cons (.free rfl) .nil) trivial memNil .nil memNil rfl ⟨(allSc_map byteV_sc), trivial⟩ memNil rfl (by simp only [V.mat, V.mat1, V.mat0, matL, matT, List.length_map] <;> rfl) rfl rfl rfl rfl ?_
    refine bnd1_elim h fun x15 q16 h => ?_
    refine s_callN (kb := [(23, 0), (40, 0)]) (ns := []) (v := .sc (.bool x15)) rfl rfl cl9 (ww_eqByteS x7 x13 x15 q16) rfl (.cons (lendL rfl (.head _) rfl byteV_free byteV_len) (.cons (lendL rfl (.tail _ (.head _)) rfl byteV_free byteV_len) .nil)) trivial memNil .nil (fun _ _ => List.not_mem_nil) rfl trivial memNil rfl rfl rfl rfl rfl rfl ?_
    refine s_of (st_not rfl rfl) rfl rfl rfl rfl ?_
    refine rt_nil ?_
    refine tri_cond rfl (fun c17 => ?_) (fun c17 => ?_)
    ·replace h := cond_t h c17
     refine tri_sr ?_
     refine s_mv (.inr rfl) (v := .sc (.bool false)) rfl rfl rfl rfl ?_
     refine rt_nil ?_
     refine tri_ret ?_
     have e0 := (some1 h); subst e0
     exact endY [] [] (rvC (resTmp rfl) rvN) trivial trivial rfl rfl rfl rfl (.free rfl)
    ·replace h := cond_f h c17
     refine tri_skip ?_
     refine tri_sr ?_
     refine s_mv (.inr rfl) (v := .sc (.int .i64 1)) rfl rfl rfl rfl ?_
     refine rt_nil ?_
     refine tri_sr ?_
     refine m1 ?_
     refine m1 ?_
     refine bnd2_elim h fun x18 x19 q20 h => ?_
     refine grd_elim h fun g21 h => ?_
     refine s_callN (kb := []) (ns := [(23, 0)]) (v := .sc (.int .i64 x18)) rfl rfl cl13 (ww_markByteS x7 1 x18 x19 q20) rfl (.cons (.refOwn rfl) (.cons (.free rfl) .nil)) ⟨⟨_, rfl, rfl⟩, trivial⟩ (memCons (allFree_map byteV_free) memNil) (List.nodup_cons.2 ⟨List.not_mem_nil, .nil⟩) memNil rfl trivial (memCons (allSc_map byteV_sc) memNil) rfl rfl rfl rfl rfl rfl ?_
     refine m2 ?_
     refine rt_nil ?_
     refine tri_seq ?_
     refine tri_cutI (ι := { p : Bool // w_FnExactGetMsg_j1 p0 x4 x5 x9 p = some r0 }) (fun p => inv_w_FnExactGetMsg_1 p0 x4 x5 x9 p.1) ?_ ?_
     ·skip
      refine tri_region ?_
      refine m1 ?_
      refine s_of (st_lss rfl rfl rfl) rfl rfl rfl rfl ?_
      refine m1 ?_
      refine s_split (t := 48) rfl (fun b22 => ?_) (fun b22 => ?_)
      ·replace h := cond_t h b22
       refine s_skip rfl rfl rfl ?_
       refine s_skip rfl rfl rfl ?_
       refine s_skip rfl rfl rfl ?_
       refine s_skip rfl rfl rfl ?_
       refine s_pickT rfl rfl (v := .sc (.bool true)) rfl rfl rfl rfl ?_
       refine m1 ?_
       refine s_skip rfl rfl rfl ?_
       refine s_skip rfl rfl rfl ?_
       refine s_skip rfl rfl rfl ?_
       refine s_pickT rfl rfl (v := .sc (.bool true)) rfl rfl rfl rfl ?_
       refine rt_nil ?_
       refine Exists.intro ⟨true, h⟩ ?_
       refine entX [((3, 0), ⟨33, 12, [[.sc (.int .i64 x4.id), .sc (.bool x4.reply), .sc (.bool x4.auth), .sc (.bool x4.cut), .sc (.bool x4.want), .sc (.bool x4.can), .sc (.int .i64 x4.code), .sc (.string x4.q.name), .sc (.int .i64 x4.q.ty), .ref (19, 109) 0 x4.an.length, .ref (19, 110) 0 x4.au.length, .ref (19, 111) 0 x4.ad.length]], false, true⟩, some (3, 0)), ((19, 109), ⟨62, 6, List.map recV x4.an, false, true⟩, some (19, 109)), ((19, 110), ⟨62, 6, List.map recV x4.au, false, true⟩, some (19, 110)), ((19, 111), ⟨62, 6, List.map recV x4.ad, false, true⟩, some (19, 111)), ((6, 0), ⟨33, 12, [[.sc (.int .i64 x9.id), .sc (.bool x9.reply), .sc (.bool x9.auth), .sc (.bool x9.cut), .sc (.bool x9.want), .sc (.bool x9.can), .sc (.int .i64 x9.code), .sc (.string x9.q.name), .sc (.int .i64 x9.q.ty), .ref (26, 109) 0 x9.an.length, .ref (26, 110) 0 x9.au.length, .ref (26, 111) 0 x9.ad.length]], false, true⟩, some (6, 0)), ((26, 109), ⟨62, 6, List.map recV x9.an, false, true⟩, some (26, 109)), ((26, 110), ⟨62, 6, List.map recV x9.au, false, true⟩, some (26, 110)), ((26, 111), ⟨62, 6, List.map recV x9.ad, false, true⟩, some (26, 111))] [] ⟨⟨rfl, _, rfl, rfl, rfl, rfl, id, rowsCv_one (.cons (.free rfl) (.cons (.free rfl) (.cons (.free rfl) (.cons (.free rfl) (.cons (.free rfl) (.cons (.free rfl) (.cons (.free rfl) (.cons (.free rfl) (.cons (.free rfl) (.cons (.ref rfl) (.cons (.ref rfl) (.cons (.ref rfl) .nil)))))))))))), rowsZ_one rfl⟩, ⟨rfl, _, rfl, rfl, rfl, rfl, id, rowsCv_eq rfl (allFree_map recV_free), rowsZ_map recV_len⟩, ⟨rfl, _, rfl, rfl, rfl, rfl, id, rowsCv_eq rfl (allFree_map recV_free), rowsZ_map recV_len⟩, ⟨rfl, _, rfl, rfl, rfl, rfl, id, rowsCv_eq rfl (allFree_map recV_free), rowsZ_map recV_len⟩, ⟨rfl, _, rfl, rfl, rfl, rfl, id, rowsCv_one (.cons (.free rfl) (.cons (.free rfl) (.cons (.free rfl) (.cons (.free rfl) (.cons (.free rfl) (.cons (.free rfl) (.cons (.free rfl) (.cons (.free rfl) (.cons (.free rfl) (.cons (.ref rfl) (.cons (.ref rfl) (.cons (.ref rfl) .nil)))))))))))), rowsZ_one rfl⟩, ⟨rfl, _, rfl, rfl, rfl, rfl, id, rowsCv_eq rfl (allFree_map recV_free), rowsZ_map recV_len⟩, ⟨rfl, _, rfl, rfl, rfl, rfl, id, rowsCv_eq rfl (allFree_map recV_free), rowsZ_map recV_len⟩, ⟨rfl, _, rfl, rfl, rfl, rfl, id, rowsCv_eq rfl (allFree_map recV_free), rowsZ_map recV_len⟩, trivial⟩ trivial rfl rfl ?_
       exact ⟨(.free rfl), (.ptr rfl), (.free rfl), (.ptr rfl), (.free rfl), trivial⟩
      ·replace h := cond_f h b22
       refine s_loadR rfl rfl rfl rfl ty33 rfl rfl rfl ?_
       refine s_loadR rfl rfl rfl rfl ty33 rfl rfl rfl ?_
       refine bnd1_elim h fun x23 q24 h => ?_
       refine s_callN (kb := [(26, 109), (26, 110), (26, 111), (19, 109), (19, 110), (19, 111)]) (ns := []) (v := .sc (.bool x23)) rfl rfl cl12 (ww_eqMsg x9 x4 x23 q24) rfl (.cons (relAggL (.cons (.free rfl) (.cons (.free rfl) (.cons (.free rfl) (.cons (.free rfl) (.cons (.free rfl) (.cons (.free rfl) (.cons (.free rfl) (.cons (.free rfl) (.cons (.free rfl) (.cons (lendL rfl (.head _) rfl recV_free recV_len) (.cons (lendL rfl (.tail _ (.head _)) rfl recV_free recV_len) (.cons (lendL rfl (.tail _ (.tail _ (.head _))) rfl recV_free recV_len) .nil))))))))))))) (.cons (relAggL (.cons (.free rfl) (.cons (.free rfl) (.cons (.free rfl) (.cons (.free rfl) (.cons (.free rfl) (.cons (.free rfl) (.cons (.free rfl) (.cons (.free rfl) (.cons (.free rfl) (.cons (lendL rfl (.tail _ (.tail _ (.tail _ (.head _)))) rfl recV_free recV_len) (.cons (lendL rfl (.tail _ (.tail _ (.tail _ (.tail _ (.head _))))) rfl recV_free recV_len) (.cons (lendL rfl (.tail _ (.tail _ (.tail _ (.tail _ (.tail _ (.head _)))))) rfl recV_free recV_len) .nil))))))))))))) .nil)) trivial memNil .nil (fun _ _ => List.not_mem_nil) rfl trivial memNil rfl rfl rfl rfl rfl rfl ?_
       refine s_of (st_not rfl rfl) rfl rfl rfl rfl ?_
       refine s_pickF rfl rfl (by conv => lhs; whnf) rfl rfl rfl ?_
       refine m1 ?_
       refine s_split (t := 54) rfl (fun b25 => ?_) (fun b25 => ?_)
       ·replace h := cond_t h b25
        refine s_skip rfl rfl rfl ?_
        refine s_skip rfl rfl rfl ?_
        refine s_skip rfl rfl rfl ?_
        refine s_pickT rfl rfl (v := .sc (.bool true)) rfl rfl rfl rfl ?_
        refine rt_nil ?_
        refine Exists.intro ⟨true, h⟩ ?_
        refine entX [((3, 0), ⟨33, 12, [[.sc (.int .i64 x4.id), .sc (.bool x4.reply), .sc (.bool x4.auth), .sc (.bool x4.cut), .sc (.bool x4.want), .sc (.bool x4.can), .sc (.int .i64 x4.code), .sc (.string x4.q.name), .sc (.int .i64 x4.q.ty), .ref (19, 109) 0 x4.an.length, .ref (19, 110) 0 x4.au.length, .ref (19, 111) 0 x4.ad.length]], false, true⟩, some (3, 0)), ((19, 109), ⟨62, 6, List.map recV x4.an, false, true⟩, some (19, 109)), ((19, 110), ⟨62, 6, List.map recV x4.au, false, true⟩, some (19, 110)), ((19, 111), ⟨62, 6, List.map recV x4.ad, false, true⟩, some (19, 111)), ((6, 0), ⟨33, 12, [[.sc (.int .i64 x9.id), .sc (.bool x9.reply), .sc (.bool x9.auth), .sc (.bool x9.cut), .sc (.bool x9.want), .sc (.bool x9.can), .sc (.int .i64 x9.code), .sc (.string x9.q.name), .sc (.int .i64 x9.q.ty), .ref (26, 109) 0 x9.an.length, .ref (26, 110) 0 x9.au.length, .ref (26, 111) 0 x9.ad.length]], false, true⟩, some (6, 0)), ((26, 109), ⟨62, 6, List.map recV x9.an, false, true⟩, some (26, 109)), ((26, 110), ⟨62, 6, List.map recV x9.au, false, true⟩, some (26, 110)), ((26, 111), ⟨62, 6, List.map recV x9.ad, false, true⟩, some (26, 111))] [] ⟨⟨rfl, _, rfl, rfl, rfl, rfl, id, rowsCv_one (.cons (.free rfl) (.cons (.free rfl) (.cons (.free rfl) (.cons (.free rfl) (.cons (.free rfl) (.cons (.free rfl) (.cons (.free rfl) (.cons (.free rfl) (.cons (.free rfl) (.cons (.ref rfl) (.cons (.ref rfl) (.cons (.ref rfl) .nil)))))))))))), rowsZ_one rfl⟩, ⟨rfl, _, rfl, rfl, rfl, rfl, id, rowsCv_eq rfl (allFree_map recV_free), rowsZ_map recV_len⟩, ⟨rfl, _, rfl, rfl, rfl, rfl, id, rowsCv_eq rfl (allFree_map recV_free), rowsZ_map recV_len⟩, ⟨rfl, _, rfl, rfl, rfl, rfl, id, rowsCv_eq rfl (allFree_map recV_free), rowsZ_map recV_len⟩, ⟨rfl, _, rfl, rfl, rfl, rfl, id, rowsCv_one (.cons (.free rfl) (.cons (.free rfl) (.cons (.free rfl) (.cons (.free rfl) (.cons (.free rfl) (.cons (.free rfl) (.cons (.free rfl) (.cons (.free rfl) (.cons (.free rfl) (.cons (.ref rfl) (.cons (.ref rfl) (.cons (.ref rfl) .nil)))))))))))), rowsZ_one rfl⟩, ⟨rfl, _, rfl, rfl, rfl, rfl, id, rowsCv_eq rfl (allFree_map recV_free), rowsZ_map recV_len⟩, ⟨rfl, _, rfl, rfl, rfl, rfl, id, rowsCv_eq rfl (allFree_map recV_free), rowsZ_map recV_len⟩, ⟨rfl, _, rfl, rfl, rfl, rfl, id, rowsCv_eq rfl (allFree_map recV_free), rowsZ_map recV_len⟩, trivial⟩ trivial rfl rfl ?_
        exact ⟨(.free rfl), (.ptr rfl), (.free rfl), (.ptr rfl), (.free rfl), trivial⟩
       ·replace h := cond_f h b25
        refine m1 ?_
        refine m1 ?_
        refine s_of (st_neB isb4 rfl rfl rfl) rfl rfl rfl rfl ?_
        refine s_pickF rfl rfl (by conv => lhs; whnf) rfl rfl rfl ?_
        refine rt_nil ?_
        refine Exists.intro ⟨!(x10 == x5), h⟩ ?_
        refine entX [((3, 0), ⟨33, 12, [[.sc (.int .i64 x4.id), .sc (.bool x4.reply), .sc (.bool x4.auth), .sc (.bool x4.cut), .sc (.bool x4.want), .sc (.bool x4.can), .sc (.int .i64 x4.code), .sc (.string x4.q.name), .sc (.int .i64 x4.q.ty), .ref (19, 109) 0 x4.an.length, .ref (19, 110) 0 x4.au.length, .ref (19, 111) 0 x4.ad.length]], false, true⟩, some (3, 0)), ((19, 109), ⟨62, 6, List.map recV x4.an, false, true⟩, some (19, 109)), ((19, 110), ⟨62, 6, List.map recV x4.au, false, true⟩, some (19, 110)), ((19, 111), ⟨62, 6, List.map recV x4.ad, false, true⟩, some (19, 111)), ((6, 0), ⟨33, 12, [[.sc (.int .i64 x9.id), .sc (.bool x9.reply), .sc (.bool x9.auth), .sc (.bool x9.cut), .sc (.bool x9.want), .sc (.bool x9.can), .sc (.int .i64 x9.code), .sc (.string x9.q.name), .sc (.int .i64 x9.q.ty), .ref (26, 109) 0 x9.an.length, .ref (26, 110) 0 x9.au.length, .ref (26, 111) 0 x9.ad.length]], false, true⟩, some (6, 0)), ((26, 109), ⟨62, 6, List.map recV x9.an, false, true⟩, some (26, 109)), ((26, 110), ⟨62, 6, List.map recV x9.au, false, true⟩, some (26, 110)), ((26, 111), ⟨62, 6, List.map recV x9.ad, false, true⟩, some (26, 111))] [] ⟨⟨rfl, _, rfl, rfl, rfl, rfl, id, rowsCv_one (.cons (.free rfl) (.cons (.free rfl) (.cons (.free rfl) (.cons (.free rfl) (.cons (.free rfl) (.cons (.free rfl) (.cons (.free rfl) (.cons (.free rfl) (.cons (.free rfl) (.cons (.ref rfl) (.cons (.ref rfl) (.cons (.ref rfl) .nil)))))))))))), rowsZ_one rfl⟩, ⟨rfl, _, rfl, rfl, rfl, rfl, id, rowsCv_eq rfl (allFree_map recV_free), rowsZ_map recV_len⟩, ⟨rfl, _, rfl, rfl, rfl, rfl, id, rowsCv_eq rfl (allFree_map recV_free), rowsZ_map recV_len⟩, ⟨rfl, _, rfl, rfl, rfl, rfl, id, rowsCv_eq rfl (allFree_map recV_free), rowsZ_map recV_len⟩, ⟨rfl, _, rfl, rfl, rfl, rfl, id, rowsCv_one (.cons (.free rfl) (.cons (.free rfl) (.cons (.free rfl) (.cons (.free rfl) (.cons (.free rfl) (.cons (.free rfl) (.cons (.free rfl) (.cons (.free rfl) (.cons (.free rfl) (.cons (.ref rfl) (.cons (.ref rfl) (.cons (.ref rfl) .nil)))))))))))), rowsZ_one rfl⟩, ⟨rfl, _, rfl, rfl, rfl, rfl, id, rowsCv_eq rfl (allFree_map recV_free), rowsZ_map recV_len⟩, ⟨rfl, _, rfl, rfl, rfl, rfl, id, rowsCv_eq rfl (allFree_map recV_free), rowsZ_map recV_len⟩, ⟨rfl, _, rfl, rfl, rfl, rfl, id, rowsCv_eq rfl (allFree_map recV_free), rowsZ_map recV_len⟩, trivial⟩ trivial rfl rfl ?_
        exact ⟨(.free rfl), (.ptr rfl), (.free rfl), (.ptr rfl), (.free rfl), trivial⟩
     ·rintro ⟨j1_0, h⟩
      replace h : w_FnExactGetMsg_j1 p0 x4 x5 x9 j1_0 = some r0 := h
      unfold w_FnExactGetMsg_j1 at h
      show Tri _ _ _ (inv_w_FnExactGetMsg_1 p0 x4 x5 x9 j1_0)
      refine tri_cond rfl (fun c22 => ?_) (fun c22 => ?_)
      ·replace h := cond_t h c22
       refine tri_sr ?_
       refine s_mv (.inr rfl) (v := .sc (.bool false)) rfl rfl rfl rfl ?_
       refine rt_nil ?_
       refine tri_ret ?_
       have e0 := (some1 h); subst e0
       exact endY [] [] (rvC (resTmp rfl) rvN) trivial trivial rfl rfl rfl rfl (.free rfl)
      ·replace h := cond_f h c22
       refine tri_skip ?_
       refine tri_sr ?_
       refine s_mv (.inr rfl) (v := .sc (.int .i64 1)) rfl rfl rfl rfl ?_
       refine rt_nil ?_
       refine tri_sr ?_
       refine s_loadR rfl rfl rfl rfl ty33 rfl rfl rfl ?_
       refine m1 ?_
       refine bnd4_elim h fun x23 x24 x25 x26 q27 h => ?_
       refine grd_elim h fun g28 h => ?_
       refine grd_elim h fun g29 h => ?_
       refine grd_elim h fun g30 h => ?_
       refine s_callN (kb := []) (ns := [(26, 109), (26, 110), (26, 111)]) (v := .sc (.int .i64 x23)) rfl rfl cl14 (ww_markMsg x9 1 x23 x24 x25 x26 q27) rfl (.cons (relAggL (.cons (.free rfl) (.cons (.free rfl) (.cons (.free rfl) (.cons (.free rfl) (.cons (.free rfl) (.cons (.free rfl) (.cons (.free rfl) (.cons (.free rfl) (.cons (.free rfl) (.cons (.refOwn rfl) (.cons (.refOwn rfl) (.cons (.refOwn rfl) .nil))))))))))))) (.cons (.free rfl) .nil)) ⟨⟨_, rfl, rfl⟩, ⟨⟨_, rfl, rfl⟩, ⟨⟨_, rfl, rfl⟩, trivial⟩⟩⟩ (memCons (allFree_map recV_free) (memCons (allFree_map recV_free) (memCons (allFree_map recV_free) memNil))) (by decide) memNil rfl trivial (memCons (allSc_map recV_sc) (memCons (allSc_map recV_sc) (memCons (allSc_map recV_sc) memNil))) rfl rfl rfl rfl rfl rfl ?_
       refine m2 ?_
       refine rt_nil ?_
       refine tri_sr ?_
       refine s_mv (.inr rfl) (v := .sc (.int .i64 1)) rfl rfl rfl rfl ?_
       refine rt_nil ?_
       refine tri_sr ?_
       refine s_loadR rfl rfl rfl rfl ty33 rfl rfl rfl ?_
       refine m1 ?_
       refine bnd1_elim h fun x31 q32 h => ?_
       refine s_callN (kb := [(26, 109), (26, 110), (26, 111)]) (ns := []) (v := .sc (.int .i64 x31)) rfl rfl cl15 (ww_heldMsg (MMsg.mk x9.id x9.reply x9.auth x9.cut x9.want x9.can x9.code x9.q x24 x25 x26) 1 x31 q32) rfl (.cons (relAggL (.cons (.free rfl) (.cons (.free rfl) (.cons (.free rfl) (.cons (.free rfl) (.cons (.free rfl) (.cons (.free rfl) (.cons (.free rfl) (.cons (.free rfl) (.cons (.free rfl) (.cons (lendL rfl (.head _) (by simp only [List.length_set, g28]) recV_free recV_len) (.cons (lendL rfl (.tail _ (.head _)) (by simp only [List.length_set, g29]) recV_free recV_len) (.cons (lendL rfl (.tail _ (.tail _ (.head _))) (by simp only [List.length_set, g30]) recV_free recV_len) .nil))))))))))))) (.cons (.free rfl) .nil)) trivial memNil .nil (fun _ _ => List.not_mem_nil) rfl trivial memNil rfl rfl rfl rfl rfl rfl ?_
       refine m2 ?_
       refine rt_nil ?_
       refine tri_seq ?_
       refine tri_sr ?_
       refine m1 ?_
       refine s_of (st_lss rfl rfl rfl) rfl rfl rfl rfl ?_
       refine rt_nil ?_
       refine tri_cond rfl (fun c33 => ?_) (fun c33 => ?_)
       ·replace h := cond_t h c33
        refine tri_sr ?_
        refine s_mv (.inr rfl) (v := .sc (.bool false)) rfl rfl rfl rfl ?_
        refine rt_nil ?_
        refine tri_ret ?_
        have e0 := (some1 h); subst e0
        exact endY [] [] (rvC (resTmp rfl) rvN) trivial trivial rfl rfl rfl rfl (.free rfl)
       ·replace h := cond_f h c33
        refine tri_skip ?_
        refine tri_seq ?_
        refine tri_sr ?_
        refine m1 ?_
        refine m1 ?_
        refine s_of (st_neI rfl rfl rfl) rfl rfl rfl rfl ?_
        refine rt_nil ?_
        refine tri_cond rfl (fun c34 => ?_) (fun c34 => ?_)
        ·replace h := cond_t h c34
         refine tri_sr ?_
         refine s_mv (.inr rfl) (v := .sc (.bool false)) rfl rfl rfl rfl ?_
         refine rt_nil ?_
         refine tri_ret ?_
         have e0 := (some1 h); subst e0
         exact endY [] [] (rvC (resTmp rfl) rvN) trivial trivial rfl rfl rfl rfl (.free rfl)
        ·replace h := cond_f h c34
         refine tri_skip ?_
         refine tri_sr ?_
         refine m1 ?_
         refine bnd1_elim h fun x35 q36 h => ?_
         refine s_callN (kb := []) (ns := []) (v := .ref (72, 0) 0 x35.length) rfl rfl cl6 (ww_toByteS p0 x35 q36) rfl (.cons (.free rfl) .nil) trivial memNil .nil memNil rfl ⟨(allSc_map byteV_sc), trivial⟩ memNil rfl (by simp only [V.mat, V.mat1, V.mat0, matL, matT, List.length_map] <;> rfl) rfl rfl rfl rfl ?_
         refine bnd2_elim h fun x37 x38 q39 h => ?_
         refine s_callN (kb := [(72, 0)]) (ns := []) (v := .tup [.agg [.sc (.int .i64 x37.id), .sc (.bool x37.reply), .sc (.bool x37.auth), .sc (.bool x37.cut), .sc (.bool x37.want), .sc (.bool x37.can), .sc (.int .i64 x37.code), .sc (.string x37.q.name), .sc (.int .i64 x37.q.ty), .ref (73, 109) 0 x37.an.length, .ref (73, 110) 0 x37.au.length, .ref (73, 111) 0 x37.ad.length], .sc (.bool x38)]) rfl rfl cl11 (wi_GetMsg x35 x37 x38 q39) rfl (.cons (lendL rfl (.head _) rfl byteV_free byteV_len) .nil) trivial memNil .nil (fun _ _ => List.not_mem_nil) rfl ⟨(allSc_map recV_sc), ⟨(allSc_map recV_sc), ⟨(allSc_map recV_sc), trivial⟩⟩⟩ memNil rfl (by simp only [V.mat, V.mat1, V.mat0, matL, matT, List.length_map] <;> rfl) rfl rfl rfl rfl ?_
         refine m1 ?_
         refine s_extract rfl rfl rfl rfl rfl rfl ?_
         refine s_extract rfl rfl rfl rfl rfl rfl ?_
         refine s_alloc rfl rfl rfl zc33 rfl rfl rfl rfl rfl ?_
         refine s_storeB rfl rfl rfl ty33 rfl rfl rfl rfl rfl ?_
         refine m2 ?_
         refine rt_nil ?_
         refine tri_seq ?_
         refine tri_cutI (ι := { p : Bool // w_FnExactGetMsg_j2 x9 x23 x24 x25 x26 p = some r0 }) (fun p => inv_w_FnExactGetMsg_2 x9 x23 x24 x25 x26 p.1) ?_ ?_
         ·skip
          refine tri_region ?_
          refine s_loadR rfl rfl rfl rfl ty33 rfl rfl rfl ?_
          refine s_loadR rfl rfl rfl rfl ty33 rfl rfl rfl ?_
          refine bnd1_elim h fun x40 q41 h => ?_
          refine s_callN (kb := [(73, 109), (73, 110), (73, 111), (19, 109), (19, 110), (19, 111)]) (ns := []) (v := .sc (.bool x40)) rfl rfl cl12 (ww_eqMsg x37 x4 x40 q41) rfl (.cons (relAggL (.cons (.free rfl) (.cons (.free rfl) (.cons (.free rfl) (.cons (.free rfl) (.cons (.free rfl) (.cons (.free rfl) (.cons (.free rfl) (.cons (.free rfl) (.cons (.free rfl) (.cons (lendL rfl (.head _) rfl recV_free recV_len) (.cons (lendL rfl (.tail _ (.head _)) rfl recV_free recV_len) (.cons (lendL rfl (.tail _ (.tail _ (.head _))) rfl recV_free recV_len) .nil))))))))))))) (.cons (relAggL (.cons (.free rfl) (.cons (.free rfl) (.cons (.free rfl) (.cons (.free rfl) (.cons (.free rfl) (.cons (.free rfl) (.cons (.free rfl) (.cons (.free rfl) (.cons (.free rfl) (.cons (lendL rfl (.tail _ (.tail _ (.tail _ (.head _)))) rfl recV_free recV_len) (.cons (lendL rfl (.tail _ (.tail _ (.tail _ (.tail _ (.head _))))) rfl recV_free recV_len) (.cons (lendL rfl (.tail _ (.tail _ (.tail _ (.tail _ (.tail _ (.head _)))))) rfl recV_free recV_len) .nil))))))))))))) .nil)) trivial memNil .nil (fun _ _ => List.not_mem_nil) rfl trivial memNil rfl rfl rfl rfl rfl rfl ?_
          refine s_of (st_not rfl rfl) rfl rfl rfl rfl ?_
          refine m1 ?_
          refine s_split (t := 80) rfl (fun b42 => ?_) (fun b42 => ?_)
          ·replace h := cond_t h b42
           refine s_skip rfl rfl rfl ?_
           refine s_skip rfl rfl rfl ?_
           refine s_skip rfl rfl rfl ?_
           refine s_pickT rfl rfl (v := .sc (.bool true)) rfl rfl rfl rfl ?_
           refine rt_nil ?_
           refine Exists.intro ⟨true, h⟩ ?_
           refine entX [((6, 0), ⟨33, 12, [[.sc (.int .i64 x9.id), .sc (.bool x9.reply), .sc (.bool x9.auth), .sc (.bool x9.cut), .sc (.bool x9.want), .sc (.bool x9.can), .sc (.int .i64 x9.code), .sc (.string x9.q.name), .sc (.int .i64 x9.q.ty), .ref (26, 109) 0 x24.length, .ref (26, 110) 0 x25.length, .ref (26, 111) 0 x26.length]], false, true⟩, some (6, 0)), ((26, 109), ⟨62, 6, List.map recV x24, false, true⟩, some (26, 109)), ((26, 110), ⟨62, 6, List.map recV x25, false, true⟩, some (26, 110)), ((26, 111), ⟨62, 6, List.map recV x26, false, true⟩, some (26, 111))] [] ⟨⟨rfl, _, rfl, rfl, rfl, rfl, id, rowsCv_one (.cons (.free rfl) (.cons (.free rfl) (.cons (.free rfl) (.cons (.free rfl) (.cons (.free rfl) (.cons (.free rfl) (.cons (.free rfl) (.cons (.free rfl) (.cons (.free rfl) (.cons (cvRefLen rfl (by simp only [List.length_set, g28])) (.cons (cvRefLen rfl (by simp only [List.length_set, g29])) (.cons (cvRefLen rfl (by simp only [List.length_set, g30])) .nil)))))))))))), rowsZ_one rfl⟩, ⟨rfl, _, rfl, rfl, rfl, rfl, id, rowsCv_eq rfl (allFree_map recV_free), rowsZ_map recV_len⟩, ⟨rfl, _, rfl, rfl, rfl, rfl, id, rowsCv_eq rfl (allFree_map recV_free), rowsZ_map recV_len⟩, ⟨rfl, _, rfl, rfl, rfl, rfl, id, rowsCv_eq rfl (allFree_map recV_free), rowsZ_map recV_len⟩, trivial⟩ trivial rfl rfl ?_
           exact ⟨(.ptr rfl), (.free rfl), (.free rfl), trivial⟩
          ·replace h := cond_f h b42
           refine m1 ?_
           refine m1 ?_
           refine s_of (st_neB isb4 rfl rfl rfl) rfl rfl rfl rfl ?_
           refine s_pickF rfl rfl (by conv => lhs; whnf) rfl rfl rfl ?_
           refine rt_nil ?_
           refine Exists.intro ⟨!(x38 == x5), h⟩ ?_
           refine entX [((6, 0), ⟨33, 12, [[.sc (.int .i64 x9.id), .sc (.bool x9.reply), .sc (.bool x9.auth), .sc (.bool x9.cut), .sc (.bool x9.want), .sc (.bool x9.can), .sc (.int .i64 x9.code), .sc (.string x9.q.name), .sc (.int .i64 x9.q.ty), .ref (26, 109) 0 x24.length, .ref (26, 110) 0 x25.length, .ref (26, 111) 0 x26.length]], false, true⟩, some (6, 0)), ((26, 109), ⟨62, 6, List.map recV x24, false, true⟩, some (26, 109)), ((26, 110), ⟨62, 6, List.map recV x25, false, true⟩, some (26, 110)), ((26, 111), ⟨62, 6, List.map recV x26, false, true⟩, some (26, 111))] [] ⟨⟨rfl, _, rfl, rfl, rfl, rfl, id, rowsCv_one (.cons (.free rfl) (.cons (.free rfl) (.cons (.free rfl) (.cons (.free rfl) (.cons (.free rfl) (.cons (.free rfl) (.cons (.free rfl) (.cons (.free rfl) (.cons (.free rfl) (.cons (cvRefLen rfl (by simp only [List.length_set, g28])) (.cons (cvRefLen rfl (by simp only [List.length_set, g29])) (.cons (cvRefLen rfl (by simp only [List.length_set, g30])) .nil)))))))))))), rowsZ_one rfl⟩, ⟨rfl, _, rfl, rfl, rfl, rfl, id, rowsCv_eq rfl (allFree_map recV_free), rowsZ_map recV_len⟩, ⟨rfl, _, rfl, rfl, rfl, rfl, id, rowsCv_eq rfl (allFree_map recV_free), rowsZ_map recV_len⟩, ⟨rfl, _, rfl, rfl, rfl, rfl, id, rowsCv_eq rfl (allFree_map recV_free), rowsZ_map recV_len⟩, trivial⟩ trivial rfl rfl ?_
           exact ⟨(.ptr rfl), (.free rfl), (.free rfl), trivial⟩
         ·rintro ⟨j2_0, h⟩
          replace h : w_FnExactGetMsg_j2 x9 x23 x24 x25 x26 j2_0 = some r0 := h
          unfold w_FnExactGetMsg_j2 at h
          show Tri _ _ _ (inv_w_FnExactGetMsg_2 x9 x23 x24 x25 x26 j2_0)
          refine tri_cond rfl (fun c40 => ?_) (fun c40 => ?_)
          ·replace h := cond_t h c40
           refine tri_sr ?_
           refine s_mv (.inr rfl) (v := .sc (.bool false)) rfl rfl rfl rfl ?_
           refine rt_nil ?_
           refine tri_ret ?_
           have e0 := (some1 h); subst e0
           exact endY [] [] (rvC (resTmp rfl) rvN) trivial trivial rfl rfl rfl rfl (.free rfl)
          ·replace h := cond_f h c40
           refine tri_skip ?_
           refine tri_sr ?_
           refine s_mv (.inr rfl) (v := .sc (.int .i64 1)) rfl rfl rfl rfl ?_
           refine rt_nil ?_
           refine tri_sr ?_
           refine s_loadR rfl rfl rfl rfl ty33 rfl rfl rfl ?_
           refine m1 ?_
           refine bnd1_elim h fun x41 q42 h => ?_
           refine s_callN (kb := [(26, 109), (26, 110), (26, 111)]) (ns := []) (v := .sc (.int .i64 x41)) rfl rfl cl15 (ww_heldMsg (MMsg.mk x9.id x9.reply x9.auth x9.cut x9.want x9.can x9.code x9.q x24 x25 x26) 1 x41 q42) rfl (.cons (relAggL (.cons (.free rfl) (.cons (.free rfl) (.cons (.free rfl) (.cons (.free rfl) (.cons (.free rfl) (.cons (.free rfl) (.cons (.free rfl) (.cons (.free rfl) (.cons (.free rfl) (.cons (lendL rfl (.head _) rfl recV_free recV_len) (.cons (lendL rfl (.tail _ (.head _)) rfl recV_free recV_len) (.cons (lendL rfl (.tail _ (.tail _ (.head _))) rfl recV_free recV_len) .nil))))))))))))) (.cons (.free rfl) .nil)) trivial memNil .nil (fun _ _ => List.not_mem_nil) rfl trivial memNil rfl rfl rfl rfl rfl rfl ?_
           refine m2 ?_
           refine rt_nil ?_
           refine tri_seq ?_
           refine tri_sr ?_
           refine m1 ?_
           refine s_of (st_lss rfl rfl rfl) rfl rfl rfl rfl ?_
           refine rt_nil ?_
           refine tri_cond rfl (fun c43 => ?_) (fun c43 => ?_)
           ·replace h := cond_t h c43
            refine tri_sr ?_
            refine s_mv (.inr rfl) (v := .sc (.bool false)) rfl rfl rfl rfl ?_
            refine rt_nil ?_
            refine tri_ret ?_
            have e0 := (some1 h); subst e0
            exact endY [] [] (rvC (resTmp rfl) rvN) trivial trivial rfl rfl rfl rfl (.free rfl)
           ·replace h := cond_f h c43
            refine tri_skip ?_
            refine tri_seq ?_
            refine tri_sr ?_
            refine m1 ?_
            refine m1 ?_
            refine s_of (st_neI rfl rfl rfl) rfl rfl rfl rfl ?_
            refine rt_nil ?_
            refine tri_cond rfl (fun c44 => ?_) (fun c44 => ?_)
            ·replace h := cond_t h c44
             refine tri_sr ?_
             refine s_mv (.inr rfl) (v := .sc (.bool false)) rfl rfl rfl rfl ?_
             refine rt_nil ?_
             refine tri_ret ?_
             have e0 := (some1 h); subst e0
             exact endY [] [] (rvC (resTmp rfl) rvN) trivial trivial rfl rfl rfl rfl (.free rfl)
            ·replace h := cond_f h c44
             refine tri_skip ?_
             refine tri_sr ?_
             refine s_mv (.inr rfl) (v := .sc (.bool true)) rfl rfl rfl rfl ?_
             refine rt_nil ?_
             refine tri_ret ?_
             have e0 := (some1 h); subst e0
             exact endY [] [] (rvC (resTmp rfl) rvN) trivial trivial rfl rfl rfl rfl (.free rfl)

end Go.Abs.M
