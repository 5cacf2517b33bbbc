/- Walks of the functions that the law of GetMsg reaches: what each of them computes, where its pure function does not fail. -/
import Derived.Test.YtainnoaellcpdaaDoorWalkGetMsg2
set_option linter.unusedSimpArgs false
set_option linter.unusedVariables false
namespace Go.Abs.M
open Go Go.Abs Go.Proofs
theorem cl24 : callable Tryd.prog 24 = true := by kernel_rfl
theorem cl25 : callable Tryd.prog 25 = true := by kernel_rfl
theorem cl26 : callable Tryd.prog 26 = true := by kernel_rfl
theorem cl27 : callable Tryd.prog 27 = true := by kernel_rfl
theorem cl28 : callable Tryd.prog 28 = true := by kernel_rfl
theorem cl39 : callable Tryd.prog 39 = true := by kernel_rfl
theorem cl40 : callable Tryd.prog 40 = true := by kernel_rfl
theorem cl7 : callable Tryd.prog 7 = true := by kernel_rfl
theorem cl8 : callable Tryd.prog 8 = true := by kernel_rfl
theorem fd33_1 : fldTy Tryd.prog 33 1 = some (1, 0 + 1, false) := by kernel_rfl
theorem fd33_2 : fldTy Tryd.prog 33 2 = some (2, 0 + 1, false) := by kernel_rfl
theorem fd33_3 : fldTy Tryd.prog 33 3 = some (3, 0 + 1, false) := by kernel_rfl
theorem fd33_4 : fldTy Tryd.prog 33 4 = some (4, 0 + 1, false) := by kernel_rfl
theorem fd33_5 : fldTy Tryd.prog 33 5 = some (5, 0 + 1, false) := by kernel_rfl
theorem fd33_6 : fldTy Tryd.prog 33 6 = some (6, 0 + 1, false) := by kernel_rfl
theorem isb4 : isBool Tryd.prog 4 = true := by kernel_rfl
theorem sl49 : slTy Tryd.prog 49 = some (3, 1, 8) := by kernel_rfl
theorem sl51 : slTy Tryd.prog 51 = some (50, 1, 8) := by kernel_rfl
theorem ty4 : tyK Tryd.prog 4 = some (false, 1) := by kernel_rfl
theorem ty50 : tyK Tryd.prog 50 = some (false, 1) := by kernel_rfl
theorem zc3 : zeroC Tryd.prog 3 = some [.int .i64 0] := by kernel_rfl
theorem zc50 : zeroC Tryd.prog 50 = some [.pointer none] := by kernel_rfl
/- impl.GetMsg -/
def inv_i_GetMsg_2 (x1 : MMsg) (x8 : Quest) (j1_0 : List Rec) (j1_1 : List Rec) (j1_2 : List Rec) (j2_0 : Bool) : St := mkT 79 [(2, .ptr (2, 0) 0 0), (4, .ptr (4, 0) 0 0), (76, .sc (.bool j2_0))] [((2, 0), some ⟨33, 12, [[.sc (.int .i64 0), .sc (.bool false), .sc (.bool false), .sc (.bool false), .sc (.bool false), .sc (.bool false), .sc (.int .i64 0), .sc (.string (⟨#[]⟩ : ByteArray)), .sc (.int .i64 0), .nils, .nils, .nils]], false, true⟩), ((4, 0), some ⟨33, 12, [[.sc (.int .i64 x1.id), .sc (.bool x1.reply), .sc (.bool x1.auth), .sc (.bool x1.cut), .sc (.bool x1.want), .sc (.bool x1.can), .sc (.int .i64 x1.code), .sc (.string x8.name), .sc (.int .i64 x8.ty), .ref (2004, 10) 0 j1_0.length, .ref (2004, 11) 0 j1_1.length, .ref (2004, 12) 0 j1_2.length]], false, true⟩), ((2004, 10), some ⟨62, 6, List.map recV j1_0, false, true⟩), ((2004, 11), some ⟨62, 6, List.map recV j1_1, false, true⟩), ((2004, 12), some ⟨62, 6, List.map recV j1_2, false, true⟩)]
def inv_i_GetMsg_1 (p0 : List Int) (x1 : MMsg) (x8 : Quest) (j1_0 : List Rec) (j1_1 : List Rec) (j1_2 : List Rec) (j1_3 : Int) (j1_4 : Int) : St := mkT 79 [(0, .lst 1 (List.map byteV p0)), (2, .ptr (2, 0) 0 0), (4, .ptr (4, 0) 0 0), (10, .sc (.int .i64 j1_3)), (11, .sc (.int .i64 j1_4))] [((2, 0), some ⟨33, 12, [[.sc (.int .i64 0), .sc (.bool false), .sc (.bool false), .sc (.bool false), .sc (.bool false), .sc (.bool false), .sc (.int .i64 0), .sc (.string (⟨#[]⟩ : ByteArray)), .sc (.int .i64 0), .nils, .nils, .nils]], false, true⟩), ((4, 0), some ⟨33, 12, [[.sc (.int .i64 x1.id), .sc (.bool x1.reply), .sc (.bool x1.auth), .sc (.bool x1.cut), .sc (.bool x1.want), .sc (.bool x1.can), .sc (.int .i64 x1.code), .sc (.string x8.name), .sc (.int .i64 x8.ty), .ref (2004, 10) 0 j1_0.length, .ref (2004, 11) 0 j1_1.length, .ref (2004, 12) 0 j1_2.length]], false, true⟩), ((2004, 10), some ⟨62, 6, List.map recV j1_0, false, true⟩), ((2004, 11), some ⟨62, 6, List.map recV j1_1, false, true⟩), ((2004, 12), some ⟨62, 6, List.map recV j1_2, false, true⟩)]
def inv_i_GetMsg_0 (p0 : List Int) (x1 : MMsg) (x2 : Int) (x3 : Int) (x4 : Int) (j0_0 : Bool) : St := mkT 79 [(0, .lst 1 (List.map byteV p0)), (2, .ptr (2, 0) 0 0), (4, .ptr (4, 0) 0 0), (5, .sc (.int .i64 x2)), (6, .sc (.int .i64 x3)), (7, .sc (.int .i64 x4)), (29, .sc (.bool j0_0))] [((2, 0), some ⟨33, 12, [[.sc (.int .i64 0), .sc (.bool false), .sc (.bool false), .sc (.bool false), .sc (.bool false), .sc (.bool false), .sc (.int .i64 0), .sc (.string (⟨#[]⟩ : ByteArray)), .sc (.int .i64 0), .nils, .nils, .nils]], false, true⟩), ((4, 0), some ⟨33, 12, [[.sc (.int .i64 x1.id), .sc (.bool x1.reply), .sc (.bool x1.auth), .sc (.bool x1.cut), .sc (.bool x1.want), .sc (.bool x1.can), .sc (.int .i64 x1.code), .sc (.string x1.q.name), .sc (.int .i64 x1.q.ty), .ref (17, 109) 0 x1.an.length, .ref (17, 110) 0 x1.au.length, .ref (17, 111) 0 x1.ad.length]], false, true⟩), ((17, 109), some ⟨62, 6, List.map recV x1.an, false, true⟩), ((17, 110), some ⟨62, 6, List.map recV x1.au, false, true⟩), ((17, 111), some ⟨62, 6, List.map recV x1.ad, false, true⟩)]
set_option maxRecDepth 4000 in
set_option maxHeartbeats 800000 in
theorem wi_GetMsg (p0 : List Int) (r0 : MMsg) (r1 : Bool) (h : i_GetMsg p0 = some (r0, r1)) : Runs Tryd.prog 11 [.lst 1 (List.map byteV p0)] [] (.tup [.agg [.sc (.int .i64 r0.id), .sc (.bool r0.reply), .sc (.bool r0.auth), .sc (.bool r0.cut), .sc (.bool r0.want), .sc (.bool r0.can), .sc (.int .i64 r0.code), .sc (.string r0.q.name), .sc (.int .i64 r0.q.ty), .own 62 6 (List.map recV r0.an), .own 62 6 (List.map recV r0.au), .own 62 6 (List.map recV r0.ad)], .sc (.bool r1)]) [] := by
 unfold i_GetMsg at h
 refine runsR [.cell 2 33, .tmp 3] Tryd.func11 rfl rfl rfl rfl ?_
 rw [Tryd.ntmps11]
 refine tri_sr ?_
 refine s_alloc rfl rfl rfl zc33 rfl rfl rfl rfl rfl ?_
 refine s_mv (.inr rfl) (v := .sc (.bool false)) rfl rfl rfl rfl ?_
 refine rt_nil ?_
 refine tri_sr ?_
 refine m1 ?_
 refine bnd5_elim h fun x1 x2 x3 x4 x5 q6 h => ?_
 refine s_callN (kb := []) (ns := []) (v := .tup [.agg [.sc (.int .i64 x1.id), .sc (.bool x1.reply), .sc (.bool x1.auth), .sc (.bool x1.cut), .sc (.bool x1.want), .sc (.bool x1.can), .sc (.int .i64 x1.code), .sc (.string x1.q.name), .sc (.int .i64 x1.q.ty), .ref (17, 109) 0 x1.an.length, .ref (17, 110) 0 x1.au.length, .ref (17, 111) 0 x1.ad.length], .sc (.int .i64 x2), .sc (.int .i64 x3), .sc (.int .i64 x4), .sc (.bool x5)]) rfl rfl cl24 (wi_GetHead p0 x1 x2 x3 x4 x5 q6) rfl (.cons (.free rfl) .nil) trivial memNil .nil memNil rfl ⟨(allSc_map recV_sc), ⟨(allSc_map recV_sc), ⟨(allSc_map recV_sc), trivial⟩⟩⟩ memNil rfl (by simp only [V.mat, V.mat1, V.mat0, matL, matT, List.length_map] <;> rfl) rfl rfl rfl rfl ?_
 refine m1 ?_
 refine s_extract rfl rfl rfl rfl rfl rfl ?_
 refine s_extract rfl rfl rfl rfl rfl rfl ?_
 refine s_extract rfl rfl rfl rfl rfl rfl ?_
 refine s_extract rfl rfl rfl rfl rfl rfl ?_
 refine s_extract rfl rfl rfl rfl rfl rfl ?_
 refine s_alloc rfl rfl rfl zc33 rfl rfl rfl rfl rfl ?_
 refine s_storeB rfl rfl rfl ty33 rfl rfl rfl rfl rfl ?_
 refine m2 ?_
 refine m2 ?_
 refine m2 ?_
 refine m2 ?_
 refine rt_nil ?_
 refine tri_seq ?_
 refine tri_cutI (ι := { p : Bool // i_GetMsg_j0 p0 x1 x2 x3 x4 p = some (r0, r1) }) (fun p => inv_i_GetMsg_0 p0 x1 x2 x3 x4 p.1) ?_ ?_
 ·skip
  refine tri_region ?_
  refine m1 ?_
  refine s_of (st_not rfl rfl) rfl rfl rfl rfl ?_
  refine m1 ?_
  refine s_split (t := 25) rfl (fun b7 => ?_) (fun b7 => ?_)
  ·replace h := cond_t h b7
   refine s_skip rfl rfl rfl ?_
   refine s_skip rfl rfl rfl ?_
   refine s_skip rfl rfl rfl ?_
   refine s_pickT rfl rfl (v := .sc (.bool true)) rfl rfl rfl rfl ?_
   refine rt_nil ?_
   refine Exists.intro ⟨true, h⟩ ?_
   refine entX [((2, 0), ⟨33, 12, [[.sc (.int .i64 0), .sc (.bool false), .sc (.bool false), .sc (.bool false), .sc (.bool false), .sc (.bool false), .sc (.int .i64 0), .sc (.string (⟨#[]⟩ : ByteArray)), .sc (.int .i64 0), .nils, .nils, .nils]], false, true⟩, some (2, 0)), ((4, 0), ⟨33, 12, [[.sc (.int .i64 x1.id), .sc (.bool x1.reply), .sc (.bool x1.auth), .sc (.bool x1.cut), .sc (.bool x1.want), .sc (.bool x1.can), .sc (.int .i64 x1.code), .sc (.string x1.q.name), .sc (.int .i64 x1.q.ty), .ref (17, 109) 0 x1.an.length, .ref (17, 110) 0 x1.au.length, .ref (17, 111) 0 x1.ad.length]], false, true⟩, some (4, 0)), ((17, 109), ⟨62, 6, List.map recV x1.an, false, true⟩, some (17, 109)), ((17, 110), ⟨62, 6, List.map recV x1.au, false, true⟩, some (17, 110)), ((17, 111), ⟨62, 6, List.map recV x1.ad, false, true⟩, some (17, 111))] [] ⟨⟨rfl, _, rfl, rfl, rfl, rfl, id, rowsCv_one (.cons (.free rfl) (.cons (.free rfl) (.cons (.free rfl) (.cons (.free rfl) (.cons (.free rfl) (.cons (.free rfl) (.cons (.free rfl) (.cons (.free rfl) (.cons (.free rfl) (.cons (.free rfl) (.cons (.free rfl) (.cons (.free rfl) .nil)))))))))))), rowsZ_one rfl⟩, ⟨rfl, _, rfl, rfl, rfl, rfl, id, rowsCv_one (.cons (.free rfl) (.cons (.free rfl) (.cons (.free rfl) (.cons (.free rfl) (.cons (.free rfl) (.cons (.free rfl) (.cons (.free rfl) (.cons (.free rfl) (.cons (.free rfl) (.cons (.ref rfl) (.cons (.ref rfl) (.cons (.ref rfl) .nil)))))))))))), rowsZ_one rfl⟩, ⟨rfl, _, rfl, rfl, rfl, rfl, id, rowsCv_eq rfl (allFree_map recV_free), rowsZ_map recV_len⟩, ⟨rfl, _, rfl, rfl, rfl, rfl, id, rowsCv_eq rfl (allFree_map recV_free), rowsZ_map recV_len⟩, ⟨rfl, _, rfl, rfl, rfl, rfl, id, rowsCv_eq rfl (allFree_map recV_free), rowsZ_map recV_len⟩, trivial⟩ trivial rfl rfl ?_
   exact ⟨(.free rfl), (.ptr rfl), (.ptr rfl), (.free rfl), (.free rfl), (.free rfl), (.free rfl), trivial⟩
  ·replace h := cond_f h b7
   refine m1 ?_
   refine s_lenL rfl sl22 rfl rfl rfl rfl ?_
   refine s_of (st_gtr rfl rfl rfl) rfl rfl rfl rfl ?_
   refine s_pickF rfl rfl (by conv => lhs; whnf) rfl rfl rfl ?_
   refine rt_nil ?_
   refine Exists.intro ⟨decide (512 < (p0.length : Int)), h⟩ ?_
   refine entX [((2, 0), ⟨33, 12, [[.sc (.int .i64 0), .sc (.bool false), .sc (.bool false), .sc (.bool false), .sc (.bool false), .sc (.bool false), .sc (.int .i64 0), .sc (.string (⟨#[]⟩ : ByteArray)), .sc (.int .i64 0), .nils, .nils, .nils]], false, true⟩, some (2, 0)), ((4, 0), ⟨33, 12, [[.sc (.int .i64 x1.id), .sc (.bool x1.reply), .sc (.bool x1.auth), .sc (.bool x1.cut), .sc (.bool x1.want), .sc (.bool x1.can), .sc (.int .i64 x1.code), .sc (.string x1.q.name), .sc (.int .i64 x1.q.ty), .ref (17, 109) 0 x1.an.length, .ref (17, 110) 0 x1.au.length, .ref (17, 111) 0 x1.ad.length]], false, true⟩, some (4, 0)), ((17, 109), ⟨62, 6, List.map recV x1.an, false, true⟩, some (17, 109)), ((17, 110), ⟨62, 6, List.map recV x1.au, false, true⟩, some (17, 110)), ((17, 111), ⟨62, 6, List.map recV x1.ad, false, true⟩, some (17, 111))] [] ⟨⟨rfl, _, rfl, rfl, rfl, rfl, id, rowsCv_one (.cons (.free rfl) (.cons (.free rfl) (.cons (.free rfl) (.cons (.free rfl) (.cons (.free rfl) (.cons (.free rfl) (.cons (.free rfl) (.cons (.free rfl) (.cons (.free rfl) (.cons (.free rfl) (.cons (.free rfl) (.cons (.free rfl) .nil)))))))))))), rowsZ_one rfl⟩, ⟨rfl, _, rfl, rfl, rfl, rfl, id, rowsCv_one (.cons (.free rfl) (.cons (.free rfl) (.cons (.free rfl) (.cons (.free rfl) (.cons (.free rfl) (.cons (.free rfl) (.cons (.free rfl) (.cons (.free rfl) (.cons (.free rfl) (.cons (.ref rfl) (.cons (.ref rfl) (.cons (.ref rfl) .nil)))))))))))), rowsZ_one rfl⟩, ⟨rfl, _, rfl, rfl, rfl, rfl, id, rowsCv_eq rfl (allFree_map recV_free), rowsZ_map recV_len⟩, ⟨rfl, _, rfl, rfl, rfl, rfl, id, rowsCv_eq rfl (allFree_map recV_free), rowsZ_map recV_len⟩, ⟨rfl, _, rfl, rfl, rfl, rfl, id, rowsCv_eq rfl (allFree_map recV_free), rowsZ_map recV_len⟩, trivial⟩ trivial rfl rfl ?_
   exact ⟨(.free rfl), (.ptr rfl), (.ptr rfl), (.free rfl), (.free rfl), (.free rfl), (.free rfl), trivial⟩
 ·rintro ⟨j0_0, h⟩
  replace h : i_GetMsg_j0 p0 x1 x2 x3 x4 j0_0 = some (r0, r1) := h
  unfold i_GetMsg_j0 at h
  show Tri _ _ _ (inv_i_GetMsg_0 p0 x1 x2 x3 x4 j0_0)
  refine tri_cond rfl (fun c7 => ?_) (fun c7 => ?_)
  ·replace h := cond_t h c7
   refine tri_sr ?_
   refine s_build (cells' := [.sc (.int .i64 0), .sc (.bool false), .sc (.bool false), .sc (.bool false), .sc (.bool false), .sc (.bool false), .sc (.int .i64 0), .sc (.string (⟨#[]⟩ : ByteArray)), .sc (.int .i64 0), .nils, .nils, .nils]) rfl stc33 rfl rfl rfl rfl rfl rfl rfl ?_
   refine s_storeB rfl rfl rfl ty33 rfl rfl rfl rfl rfl ?_
   refine s_mv (.inr rfl) (v := .sc (.bool false)) rfl rfl rfl rfl ?_
   refine rt_nil ?_
   refine tri_ret ?_
   have e0 := (some2 h).1; have e1 := (some2 h).2; subst e0; subst e1
   exact endY (v' := .tup [.agg [.sc (.int .i64 0), .sc (.bool false), .sc (.bool false), .sc (.bool false), .sc (.bool false), .sc (.bool false), .sc (.int .i64 0), .sc (.string (⟨#[]⟩ : ByteArray)), .sc (.int .i64 0), .ref (2000, 109) 0 (([] : List Rec).length), .ref (2000, 110) 0 (([] : List Rec).length), .ref (2000, 111) 0 (([] : List Rec).length)], .sc (.bool false)]) [((2000, 109), ⟨62, 6, List.map recV ([] : List Rec), false, true⟩, none), ((2000, 110), ⟨62, 6, List.map recV ([] : List Rec), false, true⟩, none), ((2000, 111), ⟨62, 6, List.map recV ([] : List Rec), false, true⟩, none)] [] (rvC (resCell rfl rfl ty33) (rvC (resTmp rfl) rvN)) ⟨rfl, rfl, rfl, trivial⟩ trivial rfl rfl (by kernel_rfl) (by simp only [V.mat, V.mat1, V.mat0, matL, matT, List.length_map] <;> rfl) (CvL.tup (.cons (CvL.agg (.cons (.free rfl) (.cons (.free rfl) (.cons (.free rfl) (.cons (.free rfl) (.cons (.free rfl) (.cons (.free rfl) (.cons (.free rfl) (.cons (.free rfl) (.cons (.free rfl) (.cons (.nilRef rfl) (.cons (.nilRef rfl) (.cons (.nilRef rfl) .nil))))))))))))) (.cons (.free rfl) .nil)))
  ·replace h := cond_f h c7
   refine tri_skip ?_
   refine tri_sr ?_
   refine m1 ?_
   refine bnd3_elim h fun x8 x9 x10 q11 h => ?_
   refine s_callN (kb := []) (ns := []) (v := .tup [.agg (questV x8), .sc (.int .i64 x9), .sc (.int .i64 x10)]) rfl rfl cl7 (wi_GetQuest p0 12 x8 x9 x10 q11) rfl (.cons (.free rfl) (.cons (.free rfl) .nil)) trivial memNil .nil memNil rfl trivial memNil rfl rfl rfl rfl rfl rfl ?_
   refine m1 ?_
   refine s_extract rfl rfl rfl rfl rfl rfl ?_
   refine s_extract rfl rfl rfl rfl rfl rfl ?_
   refine s_extract rfl rfl rfl rfl rfl rfl ?_
   refine s_alloc rfl rfl rfl zc24 rfl rfl rfl rfl rfl ?_
   refine s_storeB rfl rfl rfl ty24 rfl rfl rfl rfl rfl ?_
   refine m2 ?_
   refine m2 ?_
   refine rt_nil ?_
   refine tri_sr ?_
   refine s_loadR rfl rfl rfl rfl ty24 rfl rfl rfl ?_
   refine s_fieldAddr rfl rfl fd33_7 rfl rfl rfl rfl ?_
   refine s_store (rows' := [[.sc (.int .i64 x1.id), .sc (.bool x1.reply), .sc (.bool x1.auth), .sc (.bool x1.cut), .sc (.bool x1.want), .sc (.bool x1.can), .sc (.int .i64 x1.code), .sc (.string x8.name), .sc (.int .i64 x8.ty), .ref (17, 109) 0 x1.an.length, .ref (17, 110) 0 x1.au.length, .ref (17, 111) 0 x1.ad.length]]) rfl rfl rfl rfl ty24 rfl rfl rfl rfl rfl rfl ?_
   refine rt_nil ?_
   refine tri_sr ?_
   refine m1 ?_
   refine m1 ?_
   refine m1 ?_
   refine s_buildSlice (rows' := List.map intV [x2, x3, x4]) rfl rfl rfl sl49 zc3 rfl rfl rfl rfl rfl rfl rfl rfl rfl ?_
   refine m2 ?_
   refine rt_nil ?_
   refine tri_cutI (ι := { p : (List Rec) × (List Rec) × (List Rec) × Int × Int // i_GetMsg_j1 p0 x1 x8 p.1 p.2.1 p.2.2.1 p.2.2.2.1 p.2.2.2.2 = some (r0, r1) }) (fun p => inv_i_GetMsg_1 p0 x1 x8 p.1.1 p.1.2.1 p.1.2.2.1 p.1.2.2.2.1 p.1.2.2.2.2) ?_ ?_
   ·skip
    refine tri_sr ?_
    refine s_fieldAddr rfl rfl fd33_8 rfl rfl rfl rfl ?_
    refine s_fieldAddr rfl rfl fd33_9 rfl rfl rfl rfl ?_
    refine s_fieldAddr rfl rfl fd33_10 rfl rfl rfl rfl ?_
    refine s_buildSlice (rows' := [[.ptr (4, 0) 0 9], [.ptr (4, 0) 0 10], [.ptr (4, 0) 0 11]]) rfl rfl rfl sl51 zc50 rfl rfl rfl rfl rfl rfl rfl rfl rfl ?_
    refine s_len (m := 3) rfl sl51 rfl rfl rfl rfl ?_
    refine s_mv (.inl rfl) (v := .sc (.int .i64 0)) rfl rfl rfl rfl ?_
    refine rt_nil ?_
    refine tri_block ?_
    refine tri_rounds 4 ?_
    show Tri _ _ _ _
    refine tri_sr ?_
    refine s_of (st_lss rfl rfl rfl) rfl rfl rfl rfl ?_
    refine rt_nil ?_
    refine tri_seq ?_
    refine tri_cond rfl (fun hc => ?_) (fun hc => ?_)
    ·skip
     refine tri_skip ?_
     refine tri_seq ?_
     refine tri_block ?_
     refine tri_sr ?_
     refine m1 ?_
     refine s_index0 (i := 0) rfl rfl rfl rfl sl51 rfl (by decide) rfl rfl rfl ?_
     refine s_load rfl rfl rfl rfl ty50 rfl (.inr rfl) (by conv => lhs; whnf) rfl rfl rfl ?_
     refine m2 ?_
     refine m2 ?_
     refine rt_nil ?_
     refine tri_sr ?_
     refine m1 ?_
     refine s_of (st_eqI rfl rfl rfl) rfl rfl rfl rfl ?_
     refine rt_nil ?_
     refine tri_cond rfl (fun c12 => ?_) (fun c12 => ?_)
     ·replace h := cond_t h c12
      refine tri_region ?_
      refine m1 ?_
      refine m1 ?_
      refine m1 ?_
      refine m1 ?_
      refine m1 ?_
      refine bnd1_elim h fun x13 q14 h => ?_
      have q14a := (idx_some q14).1; have q14b := (idx_some q14).2
      refine s_indexZ rfl rfl rfl rfl sl49 rfl q14a (get_lt q14b) rfl rfl rfl ?_
      refine s_load rfl rfl rfl (rowG q14b) ty3 rfl (.inr rfl) (by conv => lhs; whnf) rfl rfl rfl ?_
      refine bnd3_elim h fun x15 x16 x17 q18 h => ?_
      refine s_callN (kb := []) (ns := []) (v := .tup [.ref (63, 100) 0 x15.length, .sc (.int .i64 x16), .sc (.int .i64 x17)]) rfl rfl cl25 (wi_GetRecords p0 x9 x13 x15 x16 x17 q18) rfl (.cons (.free rfl) (.cons (.free rfl) (.cons (.free rfl) .nil))) trivial memNil .nil memNil rfl ⟨(allSc_map recV_sc), trivial⟩ memNil rfl (by simp only [V.mat, V.mat1, V.mat0, matL, matT, List.length_map] <;> rfl) rfl rfl rfl rfl ?_
      refine m1 ?_
      refine s_extract rfl rfl rfl rfl rfl rfl ?_
      refine s_extract rfl rfl rfl rfl rfl rfl ?_
      refine s_extract rfl rfl rfl rfl rfl rfl ?_
      refine s_nilCheck rfl (by conv => lhs; whnf) (.inl ⟨_, _, _, rfl⟩) rfl rfl rfl ?_
      refine s_store (rows' := [[.sc (.int .i64 x1.id), .sc (.bool x1.reply), .sc (.bool x1.auth), .sc (.bool x1.cut), .sc (.bool x1.want), .sc (.bool x1.can), .sc (.int .i64 x1.code), .sc (.string x8.name), .sc (.int .i64 x8.ty), .ref (63, 100) 0 x15.length, .ref (17, 110) 0 x1.au.length, .ref (17, 111) 0 x1.ad.length]]) rfl rfl rfl rfl ty31 rfl rfl rfl rfl rfl rfl ?_
      refine m2 ?_
      refine m2 ?_
      refine rt_nil ?_
      refine tri_region ?_
      refine s_addI (c := 1) rfl rfl rfl rfl (by decide) rfl rfl rfl ?_
      refine m1 ?_
      refine rt_nil ?_
      show Tri _ _ _ _
      refine Tri.ent (st' := mkT 79 [(0, .lst 1 (List.map byteV p0)), (2, .ptr (2, 0) 0 0), (4, .ptr (4, 0) 0 0), (10, .sc (.int .i64 x16)), (11, .sc (.int .i64 x17)), (12, .ref (42, 0) 0 ([x2, x3, x4].length)), (46, .ref (46, 0) 0 3), (47, .sc (.int .i64 (3 : Int))), (48, .sc (.int .i64 1))] [((2, 0), some ⟨33, 12, [[.sc (.int .i64 0), .sc (.bool false), .sc (.bool false), .sc (.bool false), .sc (.bool false), .sc (.bool false), .sc (.int .i64 0), .sc (.string (⟨#[]⟩ : ByteArray)), .sc (.int .i64 0), .nils, .nils, .nils]], false, true⟩), ((4, 0), some ⟨33, 12, [[.sc (.int .i64 x1.id), .sc (.bool x1.reply), .sc (.bool x1.auth), .sc (.bool x1.cut), .sc (.bool x1.want), .sc (.bool x1.can), .sc (.int .i64 x1.code), .sc (.string x8.name), .sc (.int .i64 x8.ty), .ref (3263, 100) 0 x15.length, .ref (17, 110) 0 x1.au.length, .ref (17, 111) 0 x1.ad.length]], false, true⟩), ((3263, 100), some ⟨62, 6, List.map recV x15, false, true⟩), ((17, 110), some ⟨62, 6, List.map recV x1.au, false, true⟩), ((17, 111), some ⟨62, 6, List.map recV x1.ad, false, true⟩), ((42, 0), some ⟨3, 1, List.map intV [x2, x3, x4], false, true⟩), ((46, 0), some ⟨50, 1, [[.ptr (4, 0) 0 9], [.ptr (4, 0) 0 10], [.ptr (4, 0) 0 11]], false, true⟩)]) ?_ ?_
      ·skip
       refine entX [((2, 0), ⟨33, 12, [[.sc (.int .i64 0), .sc (.bool false), .sc (.bool false), .sc (.bool false), .sc (.bool false), .sc (.bool false), .sc (.int .i64 0), .sc (.string (⟨#[]⟩ : ByteArray)), .sc (.int .i64 0), .nils, .nils, .nils]], false, true⟩, some (2, 0)), ((4, 0), ⟨33, 12, [[.sc (.int .i64 x1.id), .sc (.bool x1.reply), .sc (.bool x1.auth), .sc (.bool x1.cut), .sc (.bool x1.want), .sc (.bool x1.can), .sc (.int .i64 x1.code), .sc (.string x8.name), .sc (.int .i64 x8.ty), .ref (3263, 100) 0 x15.length, .ref (17, 110) 0 x1.au.length, .ref (17, 111) 0 x1.ad.length]], false, true⟩, some (4, 0)), ((3263, 100), ⟨62, 6, List.map recV x15, false, true⟩, some (63, 100)), ((17, 110), ⟨62, 6, List.map recV x1.au, false, true⟩, some (17, 110)), ((17, 111), ⟨62, 6, List.map recV x1.ad, false, true⟩, some (17, 111)), ((42, 0), ⟨3, 1, List.map intV [x2, x3, x4], false, true⟩, some (42, 0)), ((46, 0), ⟨50, 1, [[.ptr (4, 0) 0 9], [.ptr (4, 0) 0 10], [.ptr (4, 0) 0 11]], false, true⟩, some (46, 0))] [] ⟨⟨rfl, _, rfl, rfl, rfl, rfl, id, rowsCv_one (.cons (.free rfl) (.cons (.free rfl) (.cons (.free rfl) (.cons (.free rfl) (.cons (.free rfl) (.cons (.free rfl) (.cons (.free rfl) (.cons (.free rfl) (.cons (.free rfl) (.cons (.free rfl) (.cons (.free rfl) (.cons (.free rfl) .nil)))))))))))), rowsZ_one rfl⟩, ⟨rfl, _, rfl, rfl, rfl, rfl, id, rowsCv_one (.cons (.free rfl) (.cons (.free rfl) (.cons (.free rfl) (.cons (.free rfl) (.cons (.free rfl) (.cons (.free rfl) (.cons (.free rfl) (.cons (.free rfl) (.cons (.free rfl) (.cons (.ref rfl) (.cons (.ref rfl) (.cons (.ref rfl) .nil)))))))))))), rowsZ_one rfl⟩, ⟨rfl, _, rfl, rfl, rfl, rfl, id, rowsCv_eq rfl (allFree_map recV_free), rowsZ_map recV_len⟩, ⟨rfl, _, rfl, rfl, rfl, rfl, id, rowsCv_eq rfl (allFree_map recV_free), rowsZ_map recV_len⟩, ⟨rfl, _, rfl, rfl, rfl, rfl, id, rowsCv_eq rfl (allFree_map recV_free), rowsZ_map recV_len⟩, ⟨rfl, _, rfl, rfl, rfl, rfl, id, rowsCv_eq rfl (allFree_map intV_free), rowsZ_map intV_len⟩, ⟨rfl, _, rfl, rfl, rfl, rfl, id, (rowsCv_cons (.cons (.ptr rfl) .nil) (rowsCv_cons (.cons (.ptr rfl) .nil) (rowsCv_cons (.cons (.ptr rfl) .nil) rowsCv_nil))), (rowsZ_cons rfl (rowsZ_cons rfl (rowsZ_cons rfl rowsZ_nil)))⟩, trivial⟩ trivial rfl rfl ?_
       exact ⟨(.free rfl), (.ptr rfl), (.ptr rfl), (.free rfl), (.free rfl), (.ref rfl), (.ref rfl), (.free rfl), (.free rfl), trivial⟩
      refine tri_sr ?_
      refine s_of (st_lss rfl rfl rfl) rfl rfl rfl rfl ?_
      refine rt_nil ?_
      refine tri_seq ?_
      refine tri_cond rfl (fun hc => ?_) (fun hc => ?_)
      ·skip
       refine tri_skip ?_
       refine tri_seq ?_
       refine tri_block ?_
       refine tri_sr ?_
       refine m1 ?_
       refine s_index0 (i := 1) rfl rfl rfl rfl sl51 rfl (by decide) rfl rfl rfl ?_
       refine s_load rfl rfl rfl rfl ty50 rfl (.inr rfl) (by conv => lhs; whnf) rfl rfl rfl ?_
       refine m2 ?_
       refine m2 ?_
       refine rt_nil ?_
       refine tri_sr ?_
       refine m1 ?_
       refine s_of (st_eqI rfl rfl rfl) rfl rfl rfl rfl ?_
       refine rt_nil ?_
       refine tri_cond rfl (fun c19 => ?_) (fun c19 => ?_)
       ·replace h := cond_t h c19
        refine tri_region ?_
        refine m1 ?_
        refine m1 ?_
        refine m1 ?_
        refine m1 ?_
        refine m1 ?_
        refine bnd1_elim h fun x20 q21 h => ?_
        have q21a := (idx_some q21).1; have q21b := (idx_some q21).2
        refine s_indexZ rfl rfl rfl rfl sl49 rfl q21a (get_lt q21b) rfl rfl rfl ?_
        refine s_load rfl rfl rfl (rowG q21b) ty3 rfl (.inr rfl) (by conv => lhs; whnf) rfl rfl rfl ?_
        refine bnd3_elim h fun x22 x23 x24 q25 h => ?_
        refine s_callN (kb := []) (ns := []) (v := .tup [.ref (63, 100) 0 x22.length, .sc (.int .i64 x23), .sc (.int .i64 x24)]) rfl rfl cl25 (wi_GetRecords p0 x16 x20 x22 x23 x24 q25) rfl (.cons (.free rfl) (.cons (.free rfl) (.cons (.free rfl) .nil))) trivial memNil .nil memNil rfl ⟨(allSc_map recV_sc), trivial⟩ memNil rfl (by simp only [V.mat, V.mat1, V.mat0, matL, matT, List.length_map] <;> rfl) rfl rfl rfl rfl ?_
        refine m1 ?_
        refine s_extract rfl rfl rfl rfl rfl rfl ?_
        refine s_extract rfl rfl rfl rfl rfl rfl ?_
        refine s_extract rfl rfl rfl rfl rfl rfl ?_
        refine s_nilCheck rfl (by conv => lhs; whnf) (.inl ⟨_, _, _, rfl⟩) rfl rfl rfl ?_
        refine s_store (rows' := [[.sc (.int .i64 x1.id), .sc (.bool x1.reply), .sc (.bool x1.auth), .sc (.bool x1.cut), .sc (.bool x1.want), .sc (.bool x1.can), .sc (.int .i64 x1.code), .sc (.string x8.name), .sc (.int .i64 x8.ty), .ref (3263, 100) 0 x15.length, .ref (63, 100) 0 x22.length, .ref (17, 111) 0 x1.ad.length]]) rfl rfl rfl rfl ty31 rfl rfl rfl rfl rfl rfl ?_
        refine m2 ?_
        refine m2 ?_
        refine rt_nil ?_
        refine tri_region ?_
        refine s_addI (c := 2) rfl rfl rfl rfl (by decide) rfl rfl rfl ?_
        refine m1 ?_
        refine rt_nil ?_
        show Tri _ _ _ _
        refine Tri.ent (st' := mkT 79 [(0, .lst 1 (List.map byteV p0)), (2, .ptr (2, 0) 0 0), (4, .ptr (4, 0) 0 0), (10, .sc (.int .i64 x23)), (11, .sc (.int .i64 x24)), (12, .ref (42, 0) 0 ([x2, x3, x4].length)), (46, .ref (46, 0) 0 3), (47, .sc (.int .i64 (3 : Int))), (48, .sc (.int .i64 2))] [((2, 0), some ⟨33, 12, [[.sc (.int .i64 0), .sc (.bool false), .sc (.bool false), .sc (.bool false), .sc (.bool false), .sc (.bool false), .sc (.int .i64 0), .sc (.string (⟨#[]⟩ : ByteArray)), .sc (.int .i64 0), .nils, .nils, .nils]], false, true⟩), ((4, 0), some ⟨33, 12, [[.sc (.int .i64 x1.id), .sc (.bool x1.reply), .sc (.bool x1.auth), .sc (.bool x1.cut), .sc (.bool x1.want), .sc (.bool x1.can), .sc (.int .i64 x1.code), .sc (.string x8.name), .sc (.int .i64 x8.ty), .ref (3263, 100) 0 x15.length, .ref (3463, 100) 0 x22.length, .ref (17, 111) 0 x1.ad.length]], false, true⟩), ((3263, 100), some ⟨62, 6, List.map recV x15, false, true⟩), ((3463, 100), some ⟨62, 6, List.map recV x22, false, true⟩), ((17, 111), some ⟨62, 6, List.map recV x1.ad, false, true⟩), ((42, 0), some ⟨3, 1, List.map intV [x2, x3, x4], false, true⟩), ((46, 0), some ⟨50, 1, [[.ptr (4, 0) 0 9], [.ptr (4, 0) 0 10], [.ptr (4, 0) 0 11]], false, true⟩)]) ?_ ?_
        ·skip
         refine entX [((2, 0), ⟨33, 12, [[.sc (.int .i64 0), .sc (.bool false), .sc (.bool false), .sc (.bool false), .sc (.bool false), .sc (.bool false), .sc (.int .i64 0), .sc (.string (⟨#[]⟩ : ByteArray)), .sc (.int .i64 0), .nils, .nils, .nils]], false, true⟩, some (2, 0)), ((4, 0), ⟨33, 12, [[.sc (.int .i64 x1.id), .sc (.bool x1.reply), .sc (.bool x1.auth), .sc (.bool x1.cut), .sc (.bool x1.want), .sc (.bool x1.can), .sc (.int .i64 x1.code), .sc (.string x8.name), .sc (.int .i64 x8.ty), .ref (3263, 100) 0 x15.length, .ref (3463, 100) 0 x22.length, .ref (17, 111) 0 x1.ad.length]], false, true⟩, some (4, 0)), ((3263, 100), ⟨62, 6, List.map recV x15, false, true⟩, some (3263, 100)), ((3463, 100), ⟨62, 6, List.map recV x22, false, true⟩, some (63, 100)), ((17, 111), ⟨62, 6, List.map recV x1.ad, false, true⟩, some (17, 111)), ((42, 0), ⟨3, 1, List.map intV [x2, x3, x4], false, true⟩, some (42, 0)), ((46, 0), ⟨50, 1, [[.ptr (4, 0) 0 9], [.ptr (4, 0) 0 10], [.ptr (4, 0) 0 11]], false, true⟩, some (46, 0))] [] ⟨⟨rfl, _, rfl, rfl, rfl, rfl, id, rowsCv_one (.cons (.free rfl) (.cons (.free rfl) (.cons (.free rfl) (.cons (.free rfl) (.cons (.free rfl) (.cons (.free rfl) (.cons (.free rfl) (.cons (.free rfl) (.cons (.free rfl) (.cons (.free rfl) (.cons (.free rfl) (.cons (.free rfl) .nil)))))))))))), rowsZ_one rfl⟩, ⟨rfl, _, rfl, rfl, rfl, rfl, id, rowsCv_one (.cons (.free rfl) (.cons (.free rfl) (.cons (.free rfl) (.cons (.free rfl) (.cons (.free rfl) (.cons (.free rfl) (.cons (.free rfl) (.cons (.free rfl) (.cons (.free rfl) (.cons (.ref rfl) (.cons (.ref rfl) (.cons (.ref rfl) .nil)))))))))))), rowsZ_one rfl⟩, ⟨rfl, _, rfl, rfl, rfl, rfl, id, rowsCv_eq rfl (allFree_map recV_free), rowsZ_map recV_len⟩, ⟨rfl, _, rfl, rfl, rfl, rfl, id, rowsCv_eq rfl (allFree_map recV_free), rowsZ_map recV_len⟩, ⟨rfl, _, rfl, rfl, rfl, rfl, id, rowsCv_eq rfl (allFree_map recV_free), rowsZ_map recV_len⟩, ⟨rfl, _, rfl, rfl, rfl, rfl, id, rowsCv_eq rfl (allFree_map intV_free), rowsZ_map intV_len⟩, ⟨rfl, _, rfl, rfl, rfl, rfl, id, (rowsCv_cons (.cons (.ptr rfl) .nil) (rowsCv_cons (.cons (.ptr rfl) .nil) (rowsCv_cons (.cons (.ptr rfl) .nil) rowsCv_nil))), (rowsZ_cons rfl (rowsZ_cons rfl (rowsZ_cons rfl rowsZ_nil)))⟩, trivial⟩ trivial rfl rfl ?_
         exact ⟨(.free rfl), (.ptr rfl), (.ptr rfl), (.free rfl), (.free rfl), (.ref rfl), (.ref rfl), (.free rfl), (.free rfl), trivial⟩
        refine tri_sr ?_
        refine s_of (st_lss rfl rfl rfl) rfl rfl rfl rfl ?_
        refine rt_nil ?_
        refine tri_seq ?_
        refine tri_cond rfl (fun hc => ?_) (fun hc => ?_)
        ·skip
         refine tri_skip ?_
         refine tri_seq ?_
         refine tri_block ?_
         refine tri_sr ?_
         refine m1 ?_
         refine s_index0 (i := 2) rfl rfl rfl rfl sl51 rfl (by decide) rfl rfl rfl ?_
         refine s_load rfl rfl rfl rfl ty50 rfl (.inr rfl) (by conv => lhs; whnf) rfl rfl rfl ?_
         refine m2 ?_
         refine m2 ?_
         refine rt_nil ?_
         refine tri_sr ?_
         refine m1 ?_
         refine s_of (st_eqI rfl rfl rfl) rfl rfl rfl rfl ?_
         refine rt_nil ?_
         refine tri_cond rfl (fun c26 => ?_) (fun c26 => ?_)
         ·replace h := cond_t h c26
          refine tri_region ?_
          refine m1 ?_
          refine m1 ?_
          refine m1 ?_
          refine m1 ?_
          refine m1 ?_
          refine bnd1_elim h fun x27 q28 h => ?_
          have q28a := (idx_some q28).1; have q28b := (idx_some q28).2
          refine s_indexZ rfl rfl rfl rfl sl49 rfl q28a (get_lt q28b) rfl rfl rfl ?_
          refine s_load rfl rfl rfl (rowG q28b) ty3 rfl (.inr rfl) (by conv => lhs; whnf) rfl rfl rfl ?_
          refine bnd3_elim h fun x29 x30 x31 q32 h => ?_
          refine s_callN (kb := []) (ns := []) (v := .tup [.ref (63, 100) 0 x29.length, .sc (.int .i64 x30), .sc (.int .i64 x31)]) rfl rfl cl25 (wi_GetRecords p0 x23 x27 x29 x30 x31 q32) rfl (.cons (.free rfl) (.cons (.free rfl) (.cons (.free rfl) .nil))) trivial memNil .nil memNil rfl ⟨(allSc_map recV_sc), trivial⟩ memNil rfl (by simp only [V.mat, V.mat1, V.mat0, matL, matT, List.length_map] <;> rfl) rfl rfl rfl rfl ?_
          refine m1 ?_
          refine s_extract rfl rfl rfl rfl rfl rfl ?_
          refine s_extract rfl rfl rfl rfl rfl rfl ?_
          refine s_extract rfl rfl rfl rfl rfl rfl ?_
          refine s_nilCheck rfl (by conv => lhs; whnf) (.inl ⟨_, _, _, rfl⟩) rfl rfl rfl ?_
          refine s_store (rows' := [[.sc (.int .i64 x1.id), .sc (.bool x1.reply), .sc (.bool x1.auth), .sc (.bool x1.cut), .sc (.bool x1.want), .sc (.bool x1.can), .sc (.int .i64 x1.code), .sc (.string x8.name), .sc (.int .i64 x8.ty), .ref (3263, 100) 0 x15.length, .ref (3463, 100) 0 x22.length, .ref (63, 100) 0 x29.length]]) rfl rfl rfl rfl ty31 rfl rfl rfl rfl rfl rfl ?_
          refine m2 ?_
          refine m2 ?_
          refine rt_nil ?_
          refine tri_region ?_
          refine s_addI (c := 3) rfl rfl rfl rfl (by decide) rfl rfl rfl ?_
          refine m1 ?_
          refine rt_nil ?_
          show Tri _ _ _ _
          refine Tri.ent (st' := mkT 79 [(0, .lst 1 (List.map byteV p0)), (2, .ptr (2, 0) 0 0), (4, .ptr (4, 0) 0 0), (10, .sc (.int .i64 x30)), (11, .sc (.int .i64 x31)), (12, .ref (42, 0) 0 ([x2, x3, x4].length)), (46, .ref (46, 0) 0 3), (47, .sc (.int .i64 (3 : Int))), (48, .sc (.int .i64 3))] [((2, 0), some ⟨33, 12, [[.sc (.int .i64 0), .sc (.bool false), .sc (.bool false), .sc (.bool false), .sc (.bool false), .sc (.bool false), .sc (.int .i64 0), .sc (.string (⟨#[]⟩ : ByteArray)), .sc (.int .i64 0), .nils, .nils, .nils]], false, true⟩), ((4, 0), some ⟨33, 12, [[.sc (.int .i64 x1.id), .sc (.bool x1.reply), .sc (.bool x1.auth), .sc (.bool x1.cut), .sc (.bool x1.want), .sc (.bool x1.can), .sc (.int .i64 x1.code), .sc (.string x8.name), .sc (.int .i64 x8.ty), .ref (3263, 100) 0 x15.length, .ref (3463, 100) 0 x22.length, .ref (3663, 100) 0 x29.length]], false, true⟩), ((3263, 100), some ⟨62, 6, List.map recV x15, false, true⟩), ((3463, 100), some ⟨62, 6, List.map recV x22, false, true⟩), ((3663, 100), some ⟨62, 6, List.map recV x29, false, true⟩), ((42, 0), some ⟨3, 1, List.map intV [x2, x3, x4], false, true⟩), ((46, 0), some ⟨50, 1, [[.ptr (4, 0) 0 9], [.ptr (4, 0) 0 10], [.ptr (4, 0) 0 11]], false, true⟩)]) ?_ ?_
          ·skip
           refine entX [((2, 0), ⟨33, 12, [[.sc (.int .i64 0), .sc (.bool false), .sc (.bool false), .sc (.bool false), .sc (.bool false), .sc (.bool false), .sc (.int .i64 0), .sc (.string (⟨#[]⟩ : ByteArray)), .sc (.int .i64 0), .nils, .nils, .nils]], false, true⟩, some (2, 0)), ((4, 0), ⟨33, 12, [[.sc (.int .i64 x1.id), .sc (.bool x1.reply), .sc (.bool x1.auth), .sc (.bool x1.cut), .sc (.bool x1.want), .sc (.bool x1.can), .sc (.int .i64 x1.code), .sc (.string x8.name), .sc (.int .i64 x8.ty), .ref (3263, 100) 0 x15.length, .ref (3463, 100) 0 x22.length, .ref (3663, 100) 0 x29.length]], false, true⟩, some (4, 0)), ((3263, 100), ⟨62, 6, List.map recV x15, false, true⟩, some (3263, 100)), ((3463, 100), ⟨62, 6, List.map recV x22, false, true⟩, some (3463, 100)), ((3663, 100), ⟨62, 6, List.map recV x29, false, true⟩, some (63, 100)), ((42, 0), ⟨3, 1, List.map intV [x2, x3, x4], false, true⟩, some (42, 0)), ((46, 0), ⟨50, 1, [[.ptr (4, 0) 0 9], [.ptr (4, 0) 0 10], [.ptr (4, 0) 0 11]], false, true⟩, some (46, 0))] [] ⟨⟨rfl, _, rfl, rfl, rfl, rfl, id, rowsCv_one (.cons (.free rfl) (.cons (.free rfl) (.cons (.free rfl) (.cons (.free rfl) (.cons (.free rfl) (.cons (.free rfl) (.cons (.free rfl) (.cons (.free rfl) (.cons (.free rfl) (.cons (.free rfl) (.cons (.free rfl) (.cons (.free rfl) .nil)))))))))))), rowsZ_one rfl⟩, ⟨rfl, _, rfl, rfl, rfl, rfl, id, rowsCv_one (.cons (.free rfl) (.cons (.free rfl) (.cons (.free rfl) (.cons (.free rfl) (.cons (.free rfl) (.cons (.free rfl) (.cons (.free rfl) (.cons (.free rfl) (.cons (.free rfl) (.cons (.ref rfl) (.cons (.ref rfl) (.cons (.ref rfl) .nil)))))))))))), rowsZ_one rfl⟩, ⟨rfl, _, rfl, rfl, rfl, rfl, id, rowsCv_eq rfl (allFree_map recV_free), rowsZ_map recV_len⟩, ⟨rfl, _, rfl, rfl, rfl, rfl, id, rowsCv_eq rfl (allFree_map recV_free), rowsZ_map recV_len⟩, ⟨rfl, _, rfl, rfl, rfl, rfl, id, rowsCv_eq rfl (allFree_map recV_free), rowsZ_map recV_len⟩, ⟨rfl, _, rfl, rfl, rfl, rfl, id, rowsCv_eq rfl (allFree_map intV_free), rowsZ_map intV_len⟩, ⟨rfl, _, rfl, rfl, rfl, rfl, id, (rowsCv_cons (.cons (.ptr rfl) .nil) (rowsCv_cons (.cons (.ptr rfl) .nil) (rowsCv_cons (.cons (.ptr rfl) .nil) rowsCv_nil))), (rowsZ_cons rfl (rowsZ_cons rfl (rowsZ_cons rfl rowsZ_nil)))⟩, trivial⟩ trivial rfl rfl ?_
           exact ⟨(.free rfl), (.ptr rfl), (.ptr rfl), (.free rfl), (.free rfl), (.ref rfl), (.ref rfl), (.free rfl), (.free rfl), trivial⟩
          refine tri_sr ?_
          refine s_of (st_lss rfl rfl rfl) rfl rfl rfl rfl ?_
          refine rt_nil ?_
          refine tri_seq ?_
          refine tri_cond rfl (fun hc => ?_) (fun hc => ?_)
          ·exact absurd hc (by decide)
          ·skip
           refine tri_exit ?_
           refine Exists.intro ⟨(x15, x22, x29, x30, x31), h⟩ ?_
           refine entX [((2, 0), ⟨33, 12, [[.sc (.int .i64 0), .sc (.bool false), .sc (.bool false), .sc (.bool false), .sc (.bool false), .sc (.bool false), .sc (.int .i64 0), .sc (.string (⟨#[]⟩ : ByteArray)), .sc (.int .i64 0), .nils, .nils, .nils]], false, true⟩, some (2, 0)), ((4, 0), ⟨33, 12, [[.sc (.int .i64 x1.id), .sc (.bool x1.reply), .sc (.bool x1.auth), .sc (.bool x1.cut), .sc (.bool x1.want), .sc (.bool x1.can), .sc (.int .i64 x1.code), .sc (.string x8.name), .sc (.int .i64 x8.ty), .ref (2004, 10) 0 x15.length, .ref (2004, 11) 0 x22.length, .ref (2004, 12) 0 x29.length]], false, true⟩, some (4, 0)), ((2004, 10), ⟨62, 6, List.map recV x15, false, true⟩, some (3263, 100)), ((2004, 11), ⟨62, 6, List.map recV x22, false, true⟩, some (3463, 100)), ((2004, 12), ⟨62, 6, List.map recV x29, false, true⟩, some (3663, 100))] [] ⟨⟨rfl, _, rfl, rfl, rfl, rfl, id, rowsCv_one (.cons (.free rfl) (.cons (.free rfl) (.cons (.free rfl) (.cons (.free rfl) (.cons (.free rfl) (.cons (.free rfl) (.cons (.free rfl) (.cons (.free rfl) (.cons (.free rfl) (.cons (.free rfl) (.cons (.free rfl) (.cons (.free rfl) .nil)))))))))))), rowsZ_one rfl⟩, ⟨rfl, _, rfl, rfl, rfl, rfl, id, rowsCv_one (.cons (.free rfl) (.cons (.free rfl) (.cons (.free rfl) (.cons (.free rfl) (.cons (.free rfl) (.cons (.free rfl) (.cons (.free rfl) (.cons (.free rfl) (.cons (.free rfl) (.cons (.ref rfl) (.cons (.ref rfl) (.cons (.ref rfl) .nil)))))))))))), rowsZ_one rfl⟩, ⟨rfl, _, rfl, rfl, rfl, rfl, id, rowsCv_eq rfl (allFree_map recV_free), rowsZ_map recV_len⟩, ⟨rfl, _, rfl, rfl, rfl, rfl, id, rowsCv_eq rfl (allFree_map recV_free), rowsZ_map recV_len⟩, ⟨rfl, _, rfl, rfl, rfl, rfl, id, rowsCv_eq rfl (allFree_map recV_free), rowsZ_map recV_len⟩, trivial⟩ trivial rfl rfl ?_
           exact ⟨(.free rfl), (.ptr rfl), (.ptr rfl), (.free rfl), (.free rfl), trivial⟩
         ·replace h := cond_f h c26
          refine tri_skip ?_
          refine tri_region ?_
          refine s_addI (c := 3) rfl rfl rfl rfl (by decide) rfl rfl rfl ?_
          refine m1 ?_
          refine rt_nil ?_
          show Tri _ _ _ _
          refine Tri.ent (st' := mkT 79 [(0, .lst 1 (List.map byteV p0)), (2, .ptr (2, 0) 0 0), (4, .ptr (4, 0) 0 0), (10, .sc (.int .i64 x23)), (11, .sc (.int .i64 x24)), (12, .ref (42, 0) 0 ([x2, x3, x4].length)), (46, .ref (46, 0) 0 3), (47, .sc (.int .i64 (3 : Int))), (48, .sc (.int .i64 3))] [((2, 0), some ⟨33, 12, [[.sc (.int .i64 0), .sc (.bool false), .sc (.bool false), .sc (.bool false), .sc (.bool false), .sc (.bool false), .sc (.int .i64 0), .sc (.string (⟨#[]⟩ : ByteArray)), .sc (.int .i64 0), .nils, .nils, .nils]], false, true⟩), ((4, 0), some ⟨33, 12, [[.sc (.int .i64 x1.id), .sc (.bool x1.reply), .sc (.bool x1.auth), .sc (.bool x1.cut), .sc (.bool x1.want), .sc (.bool x1.can), .sc (.int .i64 x1.code), .sc (.string x8.name), .sc (.int .i64 x8.ty), .ref (3263, 100) 0 x15.length, .ref (3463, 100) 0 x22.length, .ref (17, 111) 0 x1.ad.length]], false, true⟩), ((3263, 100), some ⟨62, 6, List.map recV x15, false, true⟩), ((3463, 100), some ⟨62, 6, List.map recV x22, false, true⟩), ((17, 111), some ⟨62, 6, List.map recV x1.ad, false, true⟩), ((42, 0), some ⟨3, 1, List.map intV [x2, x3, x4], false, true⟩), ((46, 0), some ⟨50, 1, [[.ptr (4, 0) 0 9], [.ptr (4, 0) 0 10], [.ptr (4, 0) 0 11]], false, true⟩)]) ?_ ?_
          ·skip
           refine entX [((2, 0), ⟨33, 12, [[.sc (.int .i64 0), .sc (.bool false), .sc (.bool false), .sc (.bool false), .sc (.bool false), .sc (.bool false), .sc (.int .i64 0), .sc (.string (⟨#[]⟩ : ByteArray)), .sc (.int .i64 0), .nils, .nils, .nils]], false, true⟩, some (2, 0)), ((4, 0), ⟨33, 12, [[.sc (.int .i64 x1.id), .sc (.bool x1.reply), .sc (.bool x1.auth), .sc (.bool x1.cut), .sc (.bool x1.want), .sc (.bool x1.can), .sc (.int .i64 x1.code), .sc (.string x8.name), .sc (.int .i64 x8.ty), .ref (3263, 100) 0 x15.length, .ref (3463, 100) 0 x22.length, .ref (17, 111) 0 x1.ad.length]], false, true⟩, some (4, 0)), ((3263, 100), ⟨62, 6, List.map recV x15, false, true⟩, some (3263, 100)), ((3463, 100), ⟨62, 6, List.map recV x22, false, true⟩, some (3463, 100)), ((17, 111), ⟨62, 6, List.map recV x1.ad, false, true⟩, some (17, 111)), ((42, 0), ⟨3, 1, List.map intV [x2, x3, x4], false, true⟩, some (42, 0)), ((46, 0), ⟨50, 1, [[.ptr (4, 0) 0 9], [.ptr (4, 0) 0 10], [.ptr (4, 0) 0 11]], false, true⟩, some (46, 0))] [] ⟨⟨rfl, _, rfl, rfl, rfl, rfl, id, rowsCv_one (.cons (.free rfl) (.cons (.free rfl) (.cons (.free rfl) (.cons (.free rfl) (.cons (.free rfl) (.cons (.free rfl) (.cons (.free rfl) (.cons (.free rfl) (.cons (.free rfl) (.cons (.free rfl) (.cons (.free rfl) (.cons (.free rfl) .nil)))))))))))), rowsZ_one rfl⟩, ⟨rfl, _, rfl, rfl, rfl, rfl, id, rowsCv_one (.cons (.free rfl) (.cons (.free rfl) (.cons (.free rfl) (.cons (.free rfl) (.cons (.free rfl) (.cons (.free rfl) (.cons (.free rfl) (.cons (.free rfl) (.cons (.free rfl) (.cons (.ref rfl) (.cons (.ref rfl) (.cons (.ref rfl) .nil)))))))))))), rowsZ_one rfl⟩, ⟨rfl, _, rfl, rfl, rfl, rfl, id, rowsCv_eq rfl (allFree_map recV_free), rowsZ_map recV_len⟩, ⟨rfl, _, rfl, rfl, rfl, rfl, id, rowsCv_eq rfl (allFree_map recV_free), rowsZ_map recV_len⟩, ⟨rfl, _, rfl, rfl, rfl, rfl, id, rowsCv_eq rfl (allFree_map recV_free), rowsZ_map recV_len⟩, ⟨rfl, _, rfl, rfl, rfl, rfl, id, rowsCv_eq rfl (allFree_map intV_free), rowsZ_map intV_len⟩, ⟨rfl, _, rfl, rfl, rfl, rfl, id, (rowsCv_cons (.cons (.ptr rfl) .nil) (rowsCv_cons (.cons (.ptr rfl) .nil) (rowsCv_cons (.cons (.ptr rfl) .nil) rowsCv_nil))), (rowsZ_cons rfl (rowsZ_cons rfl (rowsZ_cons rfl rowsZ_nil)))⟩, trivial⟩ trivial rfl rfl ?_
           exact ⟨(.free rfl), (.ptr rfl), (.ptr rfl), (.free rfl), (.free rfl), (.ref rfl), (.ref rfl), (.free rfl), (.free rfl), trivial⟩
          refine tri_sr ?_
          refine s_of (st_lss rfl rfl rfl) rfl rfl rfl rfl ?_
          refine rt_nil ?_
          refine tri_seq ?_
          refine tri_cond rfl (fun hc => ?_) (fun hc => ?_)
          ·exact absurd hc (by decide)
          ·skip
           refine tri_exit ?_
           refine Exists.intro ⟨(x15, x22, x1.ad, x23, x24), h⟩ ?_
           refine entX [((2, 0), ⟨33, 12, [[.sc (.int .i64 0), .sc (.bool false), .sc (.bool false), .sc (.bool false), .sc (.bool false), .sc (.bool false), .sc (.int .i64 0), .sc (.string (⟨#[]⟩ : ByteArray)), .sc (.int .i64 0), .nils, .nils, .nils]], false, true⟩, some (2, 0)), ((4, 0), ⟨33, 12, [[.sc (.int .i64 x1.id), .sc (.bool x1.reply), .sc (.bool x1.auth), .sc (.bool x1.cut), .sc (.bool x1.want), .sc (.bool x1.can), .sc (.int .i64 x1.code), .sc (.string x8.name), .sc (.int .i64 x8.ty), .ref (2004, 10) 0 x15.length, .ref (2004, 11) 0 x22.length, .ref (2004, 12) 0 x1.ad.length]], false, true⟩, some (4, 0)), ((2004, 10), ⟨62, 6, List.map recV x15, false, true⟩, some (3263, 100)), ((2004, 11), ⟨62, 6, List.map recV x22, false, true⟩, some (3463, 100)), ((2004, 12), ⟨62, 6, List.map recV x1.ad, false, true⟩, some (17, 111))] [] ⟨⟨rfl, _, rfl, rfl, rfl, rfl, id, rowsCv_one (.cons (.free rfl) (.cons (.free rfl) (.cons (.free rfl) (.cons (.free rfl) (.cons (.free rfl) (.cons (.free rfl) (.cons (.free rfl) (.cons (.free rfl) (.cons (.free rfl) (.cons (.free rfl) (.cons (.free rfl) (.cons (.free rfl) .nil)))))))))))), rowsZ_one rfl⟩, ⟨rfl, _, rfl, rfl, rfl, rfl, id, rowsCv_one (.cons (.free rfl) (.cons (.free rfl) (.cons (.free rfl) (.cons (.free rfl) (.cons (.free rfl) (.cons (.free rfl) (.cons (.free rfl) (.cons (.free rfl) (.cons (.free rfl) (.cons (.ref rfl) (.cons (.ref rfl) (.cons (.ref rfl) .nil)))))))))))), rowsZ_one rfl⟩, ⟨rfl, _, rfl, rfl, rfl, rfl, id, rowsCv_eq rfl (allFree_map recV_free), rowsZ_map recV_len⟩, ⟨rfl, _, rfl, rfl, rfl, rfl, id, rowsCv_eq rfl (allFree_map recV_free), rowsZ_map recV_len⟩, ⟨rfl, _, rfl, rfl, rfl, rfl, id, rowsCv_eq rfl (allFree_map recV_free), rowsZ_map recV_len⟩, trivial⟩ trivial rfl rfl ?_
           exact ⟨(.free rfl), (.ptr rfl), (.ptr rfl), (.free rfl), (.free rfl), trivial⟩
        ·exact absurd hc (by decide)
       ·replace h := cond_f h c19
        refine tri_skip ?_
        refine tri_region ?_
        refine s_addI (c := 2) rfl rfl rfl rfl (by decide) rfl rfl rfl ?_
        refine m1 ?_
        refine rt_nil ?_
        show Tri _ _ _ _
        refine Tri.ent (st' := mkT 79 [(0, .lst 1 (List.map byteV p0)), (2, .ptr (2, 0) 0 0), (4, .ptr (4, 0) 0 0), (10, .sc (.int .i64 x16)), (11, .sc (.int .i64 x17)), (12, .ref (42, 0) 0 ([x2, x3, x4].length)), (46, .ref (46, 0) 0 3), (47, .sc (.int .i64 (3 : Int))), (48, .sc (.int .i64 2))] [((2, 0), some ⟨33, 12, [[.sc (.int .i64 0), .sc (.bool false), .sc (.bool false), .sc (.bool false), .sc (.bool false), .sc (.bool false), .sc (.int .i64 0), .sc (.string (⟨#[]⟩ : ByteArray)), .sc (.int .i64 0), .nils, .nils, .nils]], false, true⟩), ((4, 0), some ⟨33, 12, [[.sc (.int .i64 x1.id), .sc (.bool x1.reply), .sc (.bool x1.auth), .sc (.bool x1.cut), .sc (.bool x1.want), .sc (.bool x1.can), .sc (.int .i64 x1.code), .sc (.string x8.name), .sc (.int .i64 x8.ty), .ref (3263, 100) 0 x15.length, .ref (17, 110) 0 x1.au.length, .ref (17, 111) 0 x1.ad.length]], false, true⟩), ((3263, 100), some ⟨62, 6, List.map recV x15, false, true⟩), ((17, 110), some ⟨62, 6, List.map recV x1.au, false, true⟩), ((17, 111), some ⟨62, 6, List.map recV x1.ad, false, true⟩), ((42, 0), some ⟨3, 1, List.map intV [x2, x3, x4], false, true⟩), ((46, 0), some ⟨50, 1, [[.ptr (4, 0) 0 9], [.ptr (4, 0) 0 10], [.ptr (4, 0) 0 11]], false, true⟩)]) ?_ ?_
        ·skip
         refine entX [((2, 0), ⟨33, 12, [[.sc (.int .i64 0), .sc (.bool false), .sc (.bool false), .sc (.bool false), .sc (.bool false), .sc (.bool false), .sc (.int .i64 0), .sc (.string (⟨#[]⟩ : ByteArray)), .sc (.int .i64 0), .nils, .nils, .nils]], false, true⟩, some (2, 0)), ((4, 0), ⟨33, 12, [[.sc (.int .i64 x1.id), .sc (.bool x1.reply), .sc (.bool x1.auth), .sc (.bool x1.cut), .sc (.bool x1.want), .sc (.bool x1.can), .sc (.int .i64 x1.code), .sc (.string x8.name), .sc (.int .i64 x8.ty), .ref (3263, 100) 0 x15.length, .ref (17, 110) 0 x1.au.length, .ref (17, 111) 0 x1.ad.length]], false, true⟩, some (4, 0)), ((3263, 100), ⟨62, 6, List.map recV x15, false, true⟩, some (3263, 100)), ((17, 110), ⟨62, 6, List.map recV x1.au, false, true⟩, some (17, 110)), ((17, 111), ⟨62, 6, List.map recV x1.ad, false, true⟩, some (17, 111)), ((42, 0), ⟨3, 1, List.map intV [x2, x3, x4], false, true⟩, some (42, 0)), ((46, 0), ⟨50, 1, [[.ptr (4, 0) 0 9], [.ptr (4, 0) 0 10], [.ptr (4, 0) 0 11]], false, true⟩, some (46, 0))] [] ⟨⟨rfl, _, rfl, rfl, rfl, rfl, id, rowsCv_one (.cons (.free rfl) (.cons (.free rfl) (.cons (.free rfl) (.cons (.free rfl) (.cons (.free rfl) (.cons (.free rfl) (.cons (.free rfl) (.cons (.free rfl) (.cons (.free rfl) (.cons (.free rfl) (.cons (.free rfl) (.cons (.free rfl) .nil)))))))))))), rowsZ_one rfl⟩, ⟨rfl, _, rfl, rfl, rfl, rfl, id, rowsCv_one (.cons (.free rfl) (.cons (.free rfl) (.cons (.free rfl) (.cons (.free rfl) (.cons (.free rfl) (.cons (.free rfl) (.cons (.free rfl) (.cons (.free rfl) (.cons (.free rfl) (.cons (.ref rfl) (.cons (.ref rfl) (.cons (.ref rfl) .nil)))))))))))), rowsZ_one rfl⟩, ⟨rfl, _, rfl, rfl, rfl, rfl, id, rowsCv_eq rfl (allFree_map recV_free), rowsZ_map recV_len⟩, ⟨rfl, _, rfl, rfl, rfl, rfl, id, rowsCv_eq rfl (allFree_map recV_free), rowsZ_map recV_len⟩, ⟨rfl, _, rfl, rfl, rfl, rfl, id, rowsCv_eq rfl (allFree_map recV_free), rowsZ_map recV_len⟩, ⟨rfl, _, rfl, rfl, rfl, rfl, id, rowsCv_eq rfl (allFree_map intV_free), rowsZ_map intV_len⟩, ⟨rfl, _, rfl, rfl, rfl, rfl, id, (rowsCv_cons (.cons (.ptr rfl) .nil) (rowsCv_cons (.cons (.ptr rfl) .nil) (rowsCv_cons (.cons (.ptr rfl) .nil) rowsCv_nil))), (rowsZ_cons rfl (rowsZ_cons rfl (rowsZ_cons rfl rowsZ_nil)))⟩, trivial⟩ trivial rfl rfl ?_
         exact ⟨(.free rfl), (.ptr rfl), (.ptr rfl), (.free rfl), (.free rfl), (.ref rfl), (.ref rfl), (.free rfl), (.free rfl), trivial⟩
        refine tri_sr ?_
        refine s_of (st_lss rfl rfl rfl) rfl rfl rfl rfl ?_
        refine rt_nil ?_
        refine tri_seq ?_
        refine tri_cond rfl (fun hc => ?_) (fun hc => ?_)
        ·skip
         refine tri_skip ?_
         refine tri_seq ?_
         refine tri_block ?_
         refine tri_sr ?_
         refine m1 ?_
         refine s_index0 (i := 2) rfl rfl rfl rfl sl51 rfl (by decide) rfl rfl rfl ?_
         refine s_load rfl rfl rfl rfl ty50 rfl (.inr rfl) (by conv => lhs; whnf) rfl rfl rfl ?_
         refine m2 ?_
         refine m2 ?_
         refine rt_nil ?_
         refine tri_sr ?_
         refine m1 ?_
         refine s_of (st_eqI rfl rfl rfl) rfl rfl rfl rfl ?_
         refine rt_nil ?_
         refine tri_cond rfl (fun c33 => ?_) (fun c33 => ?_)
         ·replace h := cond_t h c33
          refine tri_region ?_
          refine m1 ?_
          refine m1 ?_
          refine m1 ?_
          refine m1 ?_
          refine m1 ?_
          refine bnd1_elim h fun x34 q35 h => ?_
          have q35a := (idx_some q35).1; have q35b := (idx_some q35).2
          refine s_indexZ rfl rfl rfl rfl sl49 rfl q35a (get_lt q35b) rfl rfl rfl ?_
          refine s_load rfl rfl rfl (rowG q35b) ty3 rfl (.inr rfl) (by conv => lhs; whnf) rfl rfl rfl ?_
          refine bnd3_elim h fun x36 x37 x38 q39 h => ?_
          refine s_callN (kb := []) (ns := []) (v := .tup [.ref (63, 100) 0 x36.length, .sc (.int .i64 x37), .sc (.int .i64 x38)]) rfl rfl cl25 (wi_GetRecords p0 x16 x34 x36 x37 x38 q39) rfl (.cons (.free rfl) (.cons (.free rfl) (.cons (.free rfl) .nil))) trivial memNil .nil memNil rfl ⟨(allSc_map recV_sc), trivial⟩ memNil rfl (by simp only [V.mat, V.mat1, V.mat0, matL, matT, List.length_map] <;> rfl) rfl rfl rfl rfl ?_
          refine m1 ?_
          refine s_extract rfl rfl rfl rfl rfl rfl ?_
          refine s_extract rfl rfl rfl rfl rfl rfl ?_
          refine s_extract rfl rfl rfl rfl rfl rfl ?_
          refine s_nilCheck rfl (by conv => lhs; whnf) (.inl ⟨_, _, _, rfl⟩) rfl rfl rfl ?_
          refine s_store (rows' := [[.sc (.int .i64 x1.id), .sc (.bool x1.reply), .sc (.bool x1.auth), .sc (.bool x1.cut), .sc (.bool x1.want), .sc (.bool x1.can), .sc (.int .i64 x1.code), .sc (.string x8.name), .sc (.int .i64 x8.ty), .ref (3263, 100) 0 x15.length, .ref (17, 110) 0 x1.au.length, .ref (63, 100) 0 x36.length]]) rfl rfl rfl rfl ty31 rfl rfl rfl rfl rfl rfl ?_
          refine m2 ?_
          refine m2 ?_
          refine rt_nil ?_
          refine tri_region ?_
          refine s_addI (c := 3) rfl rfl rfl rfl (by decide) rfl rfl rfl ?_
          refine m1 ?_
          refine rt_nil ?_
          show Tri _ _ _ _
          refine Tri.ent (st' := mkT 79 [(0, .lst 1 (List.map byteV p0)), (2, .ptr (2, 0) 0 0), (4, .ptr (4, 0) 0 0), (10, .sc (.int .i64 x37)), (11, .sc (.int .i64 x38)), (12, .ref (42, 0) 0 ([x2, x3, x4].length)), (46, .ref (46, 0) 0 3), (47, .sc (.int .i64 (3 : Int))), (48, .sc (.int .i64 3))] [((2, 0), some ⟨33, 12, [[.sc (.int .i64 0), .sc (.bool false), .sc (.bool false), .sc (.bool false), .sc (.bool false), .sc (.bool false), .sc (.int .i64 0), .sc (.string (⟨#[]⟩ : ByteArray)), .sc (.int .i64 0), .nils, .nils, .nils]], false, true⟩), ((4, 0), some ⟨33, 12, [[.sc (.int .i64 x1.id), .sc (.bool x1.reply), .sc (.bool x1.auth), .sc (.bool x1.cut), .sc (.bool x1.want), .sc (.bool x1.can), .sc (.int .i64 x1.code), .sc (.string x8.name), .sc (.int .i64 x8.ty), .ref (3263, 100) 0 x15.length, .ref (17, 110) 0 x1.au.length, .ref (3663, 100) 0 x36.length]], false, true⟩), ((3263, 100), some ⟨62, 6, List.map recV x15, false, true⟩), ((17, 110), some ⟨62, 6, List.map recV x1.au, false, true⟩), ((3663, 100), some ⟨62, 6, List.map recV x36, false, true⟩), ((42, 0), some ⟨3, 1, List.map intV [x2, x3, x4], false, true⟩), ((46, 0), some ⟨50, 1, [[.ptr (4, 0) 0 9], [.ptr (4, 0) 0 10], [.ptr (4, 0) 0 11]], false, true⟩)]) ?_ ?_
          ·skip
           refine entX [((2, 0), ⟨33, 12, [[.sc (.int .i64 0), .sc (.bool false), .sc (.bool false), .sc (.bool false), .sc (.bool false), .sc (.bool false), .sc (.int .i64 0), .sc (.string (⟨#[]⟩ : ByteArray)), .sc (.int .i64 0), .nils, .nils, .nils]], false, true⟩, some (2, 0)), ((4, 0), ⟨33, 12, [[.sc (.int .i64 x1.id), .sc (.bool x1.reply), .sc (.bool x1.auth), .sc (.bool x1.cut), .sc (.bool x1.want), .sc (.bool x1.can), .sc (.int .i64 x1.code), .sc (.string x8.name), .sc (.int .i64 x8.ty), .ref (3263, 100) 0 x15.length, .ref (17, 110) 0 x1.au.length, .ref (3663, 100) 0 x36.length]], false, true⟩, some (4, 0)), ((3263, 100), ⟨62, 6, List.map recV x15, false, true⟩, some (3263, 100)), ((17, 110), ⟨62, 6, List.map recV x1.au, false, true⟩, some (17, 110)), ((3663, 100), ⟨62, 6, List.map recV x36, false, true⟩, some (63, 100)), ((42, 0), ⟨3, 1, List.map intV [x2, x3, x4], false, true⟩, some (42, 0)), ((46, 0), ⟨50, 1, [[.ptr (4, 0) 0 9], [.ptr (4, 0) 0 10], [.ptr (4, 0) 0 11]], false, true⟩, some (46, 0))] [] ⟨⟨rfl, _, rfl, rfl, rfl, rfl, id, rowsCv_one (.cons (.free rfl) (.cons (.free rfl) (.cons (.free rfl) (.cons (.free rfl) (.cons (.free rfl) (.cons (.free rfl) (.cons (.free rfl) (.cons (.free rfl) (.cons (.free rfl) (.cons (.free rfl) (.cons (.free rfl) (.cons (.free rfl) .nil)))))))))))), rowsZ_one rfl⟩, ⟨rfl, _, rfl, rfl, rfl, rfl, id, rowsCv_one (.cons (.free rfl) (.cons (.free rfl) (.cons (.free rfl) (.cons (.free rfl) (.cons (.free rfl) (.cons (.free rfl) (.cons (.free rfl) (.cons (.free rfl) (.cons (.free rfl) (.cons (.ref rfl) (.cons (.ref rfl) (.cons (.ref rfl) .nil)))))))))))), rowsZ_one rfl⟩, ⟨rfl, _, rfl, rfl, rfl, rfl, id, rowsCv_eq rfl (allFree_map recV_free), rowsZ_map recV_len⟩, ⟨rfl, _, rfl, rfl, rfl, rfl, id, rowsCv_eq rfl (allFree_map recV_free), rowsZ_map recV_len⟩, ⟨rfl, _, rfl, rfl, rfl, rfl, id, rowsCv_eq rfl (allFree_map recV_free), rowsZ_map recV_len⟩, ⟨rfl, _, rfl, rfl, rfl, rfl, id, rowsCv_eq rfl (allFree_map intV_free), rowsZ_map intV_len⟩, ⟨rfl, _, rfl, rfl, rfl, rfl, id, (rowsCv_cons (.cons (.ptr rfl) .nil) (rowsCv_cons (.cons (.ptr rfl) .nil) (rowsCv_cons (.cons (.ptr rfl) .nil) rowsCv_nil))), (rowsZ_cons rfl (rowsZ_cons rfl (rowsZ_cons rfl rowsZ_nil)))⟩, trivial⟩ trivial rfl rfl ?_
           exact ⟨(.free rfl), (.ptr rfl), (.ptr rfl), (.free rfl), (.free rfl), (.ref rfl), (.ref rfl), (.free rfl), (.free rfl), trivial⟩
          refine tri_sr ?_
          refine s_of (st_lss rfl rfl rfl) rfl rfl rfl rfl ?_
          refine rt_nil ?_
          refine tri_seq ?_
          refine tri_cond rfl (fun hc => ?_) (fun hc => ?_)
          ·exact absurd hc (by decide)
          ·skip
           refine tri_exit ?_
           refine Exists.intro ⟨(x15, x1.au, x36, x37, x38), h⟩ ?_
           refine entX [((2, 0), ⟨33, 12, [[.sc (.int .i64 0), .sc (.bool false), .sc (.bool false), .sc (.bool false), .sc (.bool false), .sc (.bool false), .sc (.int .i64 0), .sc (.string (⟨#[]⟩ : ByteArray)), .sc (.int .i64 0), .nils, .nils, .nils]], false, true⟩, some (2, 0)), ((4, 0), ⟨33, 12, [[.sc (.int .i64 x1.id), .sc (.bool x1.reply), .sc (.bool x1.auth), .sc (.bool x1.cut), .sc (.bool x1.want), .sc (.bool x1.can), .sc (.int .i64 x1.code), .sc (.string x8.name), .sc (.int .i64 x8.ty), .ref (2004, 10) 0 x15.length, .ref (2004, 11) 0 x1.au.length, .ref (2004, 12) 0 x36.length]], false, true⟩, some (4, 0)), ((2004, 10), ⟨62, 6, List.map recV x15, false, true⟩, some (3263, 100)), ((2004, 11), ⟨62, 6, List.map recV x1.au, false, true⟩, some (17, 110)), ((2004, 12), ⟨62, 6, List.map recV x36, false, true⟩, some (3663, 100))] [] ⟨⟨rfl, _, rfl, rfl, rfl, rfl, id, rowsCv_one (.cons (.free rfl) (.cons (.free rfl) (.cons (.free rfl) (.cons (.free rfl) (.cons (.free rfl) (.cons (.free rfl) (.cons (.free rfl) (.cons (.free rfl) (.cons (.free rfl) (.cons (.free rfl) (.cons (.free rfl) (.cons (.free rfl) .nil)))))))))))), rowsZ_one rfl⟩, ⟨rfl, _, rfl, rfl, rfl, rfl, id, rowsCv_one (.cons (.free rfl) (.cons (.free rfl) (.cons (.free rfl) (.cons (.free rfl) (.cons (.free rfl) (.cons (.free rfl) (.cons (.free rfl) (.cons (.free rfl) (.cons (.free rfl) (.cons (.ref rfl) (.cons (.ref rfl) (.cons (.ref rfl) .nil)))))))))))), rowsZ_one rfl⟩, ⟨rfl, _, rfl, rfl, rfl, rfl, id, rowsCv_eq rfl (allFree_map recV_free), rowsZ_map recV_len⟩, ⟨rfl, _, rfl, rfl, rfl, rfl, id, rowsCv_eq rfl (allFree_map recV_free), rowsZ_map recV_len⟩, ⟨rfl, _, rfl, rfl, rfl, rfl, id, rowsCv_eq rfl (allFree_map recV_free), rowsZ_map recV_len⟩, trivial⟩ trivial rfl rfl ?_
           exact ⟨(.free rfl), (.ptr rfl), (.ptr rfl), (.free rfl), (.free rfl), trivial⟩
         ·replace h := cond_f h c33
          refine tri_skip ?_
          refine tri_region ?_
          refine s_addI (c := 3) rfl rfl rfl rfl (by decide) rfl rfl rfl ?_
          refine m1 ?_
          refine rt_nil ?_
          show Tri _ _ _ _
          refine Tri.ent (st' := mkT 79 [(0, .lst 1 (List.map byteV p0)), (2, .ptr (2, 0) 0 0), (4, .ptr (4, 0) 0 0), (10, .sc (.int .i64 x16)), (11, .sc (.int .i64 x17)), (12, .ref (42, 0) 0 ([x2, x3, x4].length)), (46, .ref (46, 0) 0 3), (47, .sc (.int .i64 (3 : Int))), (48, .sc (.int .i64 3))] [((2, 0), some ⟨33, 12, [[.sc (.int .i64 0), .sc (.bool false), .sc (.bool false), .sc (.bool false), .sc (.bool false), .sc (.bool false), .sc (.int .i64 0), .sc (.string (⟨#[]⟩ : ByteArray)), .sc (.int .i64 0), .nils, .nils, .nils]], false, true⟩), ((4, 0), some ⟨33, 12, [[.sc (.int .i64 x1.id), .sc (.bool x1.reply), .sc (.bool x1.auth), .sc (.bool x1.cut), .sc (.bool x1.want), .sc (.bool x1.can), .sc (.int .i64 x1.code), .sc (.string x8.name), .sc (.int .i64 x8.ty), .ref (3263, 100) 0 x15.length, .ref (17, 110) 0 x1.au.length, .ref (17, 111) 0 x1.ad.length]], false, true⟩), ((3263, 100), some ⟨62, 6, List.map recV x15, false, true⟩), ((17, 110), some ⟨62, 6, List.map recV x1.au, false, true⟩), ((17, 111), some ⟨62, 6, List.map recV x1.ad, false, true⟩), ((42, 0), some ⟨3, 1, List.map intV [x2, x3, x4], false, true⟩), ((46, 0), some ⟨50, 1, [[.ptr (4, 0) 0 9], [.ptr (4, 0) 0 10], [.ptr (4, 0) 0 11]], false, true⟩)]) ?_ ?_
          ·skip
           refine entX [((2, 0), ⟨33, 12, [[.sc (.int .i64 0), .sc (.bool false), .sc (.bool false), .sc (.bool false), .sc (.bool false), .sc (.bool false), .sc (.int .i64 0), .sc (.string (⟨#[]⟩ : ByteArray)), .sc (.int .i64 0), .nils, .nils, .nils]], false, true⟩, some (2, 0)), ((4, 0), ⟨33, 12, [[.sc (.int .i64 x1.id), .sc (.bool x1.reply), .sc (.bool x1.auth), .sc (.bool x1.cut), .sc (.bool x1.want), .sc (.bool x1.can), .sc (.int .i64 x1.code), .sc (.string x8.name), .sc (.int .i64 x8.ty), .ref (3263, 100) 0 x15.length, .ref (17, 110) 0 x1.au.length, .ref (17, 111) 0 x1.ad.length]], false, true⟩, some (4, 0)), ((3263, 100), ⟨62, 6, List.map recV x15, false, true⟩, some (3263, 100)), ((17, 110), ⟨62, 6, List.map recV x1.au, false, true⟩, some (17, 110)), ((17, 111), ⟨62, 6, List.map recV x1.ad, false, true⟩, some (17, 111)), ((42, 0), ⟨3, 1, List.map intV [x2, x3, x4], false, true⟩, some (42, 0)), ((46, 0), ⟨50, 1, [[.ptr (4, 0) 0 9], [.ptr (4, 0) 0 10], [.ptr (4, 0) 0 11]], false, true⟩, some (46, 0))] [] ⟨⟨rfl, _, rfl, rfl, rfl, rfl, id, rowsCv_one (.cons (.free rfl) (.cons (.free rfl) (.cons (.free rfl) (.cons (.free rfl) (.cons (.free rfl) (.cons (.free rfl) (.cons (.free rfl) (.cons (.free rfl) (.cons (.free rfl) (.cons (.free rfl) (.cons (.free rfl) (.cons (.free rfl) .nil)))))))))))), rowsZ_one rfl⟩, ⟨rfl, _, rfl, rfl, rfl, rfl, id, rowsCv_one (.cons (.free rfl) (.cons (.free rfl) (.cons (.free rfl) (.cons (.free rfl) (.cons (.free rfl) (.cons (.free rfl) (.cons (.free rfl) (.cons (.free rfl) (.cons (.free rfl) (.cons (.ref rfl) (.cons (.ref rfl) (.cons (.ref rfl) .nil)))))))))))), rowsZ_one rfl⟩, ⟨rfl, _, rfl, rfl, rfl, rfl, id, rowsCv_eq rfl (allFree_map recV_free), rowsZ_map recV_len⟩, ⟨rfl, _, rfl, rfl, rfl, rfl, id, rowsCv_eq rfl (allFree_map recV_free), rowsZ_map recV_len⟩, ⟨rfl, _, rfl, rfl, rfl, rfl, id, rowsCv_eq rfl (allFree_map recV_free), rowsZ_map recV_len⟩, ⟨rfl, _, rfl, rfl, rfl, rfl, id, rowsCv_eq rfl (allFree_map intV_free), rowsZ_map intV_len⟩, ⟨rfl, _, rfl, rfl, rfl, rfl, id, (rowsCv_cons (.cons (.ptr rfl) .nil) (rowsCv_cons (.cons (.ptr rfl) .nil) (rowsCv_cons (.cons (.ptr rfl) .nil) rowsCv_nil))), (rowsZ_cons rfl (rowsZ_cons rfl (rowsZ_cons rfl rowsZ_nil)))⟩, trivial⟩ trivial rfl rfl ?_
           exact ⟨(.free rfl), (.ptr rfl), (.ptr rfl), (.free rfl), (.free rfl), (.ref rfl), (.ref rfl), (.free rfl), (.free rfl), trivial⟩
          refine tri_sr ?_
          refine s_of (st_lss rfl rfl rfl) rfl rfl rfl rfl ?_
          refine rt_nil ?_
          refine tri_seq ?_
          refine tri_cond rfl (fun hc => ?_) (fun hc => ?_)
          ·exact absurd hc (by decide)
          ·skip
           refine tri_exit ?_
           refine Exists.intro ⟨(x15, x1.au, x1.ad, x16, x17), h⟩ ?_
           refine entX [((2, 0), ⟨33, 12, [[.sc (.int .i64 0), .sc (.bool false), .sc (.bool false), .sc (.bool false), .sc (.bool false), .sc (.bool false), .sc (.int .i64 0), .sc (.string (⟨#[]⟩ : ByteArray)), .sc (.int .i64 0), .nils, .nils, .nils]], false, true⟩, some (2, 0)), ((4, 0), ⟨33, 12, [[.sc (.int .i64 x1.id), .sc (.bool x1.reply), .sc (.bool x1.auth), .sc (.bool x1.cut), .sc (.bool x1.want), .sc (.bool x1.can), .sc (.int .i64 x1.code), .sc (.string x8.name), .sc (.int .i64 x8.ty), .ref (2004, 10) 0 x15.length, .ref (2004, 11) 0 x1.au.length, .ref (2004, 12) 0 x1.ad.length]], false, true⟩, some (4, 0)), ((2004, 10), ⟨62, 6, List.map recV x15, false, true⟩, some (3263, 100)), ((2004, 11), ⟨62, 6, List.map recV x1.au, false, true⟩, some (17, 110)), ((2004, 12), ⟨62, 6, List.map recV x1.ad, false, true⟩, some (17, 111))] [] ⟨⟨rfl, _, rfl, rfl, rfl, rfl, id, rowsCv_one (.cons (.free rfl) (.cons (.free rfl) (.cons (.free rfl) (.cons (.free rfl) (.cons (.free rfl) (.cons (.free rfl) (.cons (.free rfl) (.cons (.free rfl) (.cons (.free rfl) (.cons (.free rfl) (.cons (.free rfl) (.cons (.free rfl) .nil)))))))))))), rowsZ_one rfl⟩, ⟨rfl, _, rfl, rfl, rfl, rfl, id, rowsCv_one (.cons (.free rfl) (.cons (.free rfl) (.cons (.free rfl) (.cons (.free rfl) (.cons (.free rfl) (.cons (.free rfl) (.cons (.free rfl) (.cons (.free rfl) (.cons (.free rfl) (.cons (.ref rfl) (.cons (.ref rfl) (.cons (.ref rfl) .nil)))))))))))), rowsZ_one rfl⟩, ⟨rfl, _, rfl, rfl, rfl, rfl, id, rowsCv_eq rfl (allFree_map recV_free), rowsZ_map recV_len⟩, ⟨rfl, _, rfl, rfl, rfl, rfl, id, rowsCv_eq rfl (allFree_map recV_free), rowsZ_map recV_len⟩, ⟨rfl, _, rfl, rfl, rfl, rfl, id, rowsCv_eq rfl (allFree_map recV_free), rowsZ_map recV_len⟩, trivial⟩ trivial rfl rfl ?_
           exact ⟨(.free rfl), (.ptr rfl), (.ptr rfl), (.free rfl), (.free rfl), trivial⟩
        ·exact absurd hc (by decide)
      ·exact absurd hc (by decide)
     ·replace h := cond_f h c12
      refine tri_skip ?_
      refine tri_region ?_
      refine s_addI (c := 1) rfl rfl rfl rfl (by decide) rfl rfl rfl ?_
      refine m1 ?_
      refine rt_nil ?_
      show Tri _ _ _ _
      refine Tri.ent (st' := mkT 79 [(0, .lst 1 (List.map byteV p0)), (2, .ptr (2, 0) 0 0), (4, .ptr (4, 0) 0 0), (10, .sc (.int .i64 x9)), (11, .sc (.int .i64 x10)), (12, .ref (42, 0) 0 ([x2, x3, x4].length)), (46, .ref (46, 0) 0 3), (47, .sc (.int .i64 (3 : Int))), (48, .sc (.int .i64 1))] [((2, 0), some ⟨33, 12, [[.sc (.int .i64 0), .sc (.bool false), .sc (.bool false), .sc (.bool false), .sc (.bool false), .sc (.bool false), .sc (.int .i64 0), .sc (.string (⟨#[]⟩ : ByteArray)), .sc (.int .i64 0), .nils, .nils, .nils]], false, true⟩), ((4, 0), some ⟨33, 12, [[.sc (.int .i64 x1.id), .sc (.bool x1.reply), .sc (.bool x1.auth), .sc (.bool x1.cut), .sc (.bool x1.want), .sc (.bool x1.can), .sc (.int .i64 x1.code), .sc (.string x8.name), .sc (.int .i64 x8.ty), .ref (17, 109) 0 x1.an.length, .ref (17, 110) 0 x1.au.length, .ref (17, 111) 0 x1.ad.length]], false, true⟩), ((17, 109), some ⟨62, 6, List.map recV x1.an, false, true⟩), ((17, 110), some ⟨62, 6, List.map recV x1.au, false, true⟩), ((17, 111), some ⟨62, 6, List.map recV x1.ad, false, true⟩), ((42, 0), some ⟨3, 1, List.map intV [x2, x3, x4], false, true⟩), ((46, 0), some ⟨50, 1, [[.ptr (4, 0) 0 9], [.ptr (4, 0) 0 10], [.ptr (4, 0) 0 11]], false, true⟩)]) ?_ ?_
      ·skip
       refine entX [((2, 0), ⟨33, 12, [[.sc (.int .i64 0), .sc (.bool false), .sc (.bool false), .sc (.bool false), .sc (.bool false), .sc (.bool false), .sc (.int .i64 0), .sc (.string (⟨#[]⟩ : ByteArray)), .sc (.int .i64 0), .nils, .nils, .nils]], false, true⟩, some (2, 0)), ((4, 0), ⟨33, 12, [[.sc (.int .i64 x1.id), .sc (.bool x1.reply), .sc (.bool x1.auth), .sc (.bool x1.cut), .sc (.bool x1.want), .sc (.bool x1.can), .sc (.int .i64 x1.code), .sc (.string x8.name), .sc (.int .i64 x8.ty), .ref (17, 109) 0 x1.an.length, .ref (17, 110) 0 x1.au.length, .ref (17, 111) 0 x1.ad.length]], false, true⟩, some (4, 0)), ((17, 109), ⟨62, 6, List.map recV x1.an, false, true⟩, some (17, 109)), ((17, 110), ⟨62, 6, List.map recV x1.au, false, true⟩, some (17, 110)), ((17, 111), ⟨62, 6, List.map recV x1.ad, false, true⟩, some (17, 111)), ((42, 0), ⟨3, 1, List.map intV [x2, x3, x4], false, true⟩, some (42, 0)), ((46, 0), ⟨50, 1, [[.ptr (4, 0) 0 9], [.ptr (4, 0) 0 10], [.ptr (4, 0) 0 11]], false, true⟩, some (46, 0))] [] ⟨⟨rfl, _, rfl, rfl, rfl, rfl, id, rowsCv_one (.cons (.free rfl) (.cons (.free rfl) (.cons (.free rfl) (.cons (.free rfl) (.cons (.free rfl) (.cons (.free rfl) (.cons (.free rfl) (.cons (.free rfl) (.cons (.free rfl) (.cons (.free rfl) (.cons (.free rfl) (.cons (.free rfl) .nil)))))))))))), rowsZ_one rfl⟩, ⟨rfl, _, rfl, rfl, rfl, rfl, id, rowsCv_one (.cons (.free rfl) (.cons (.free rfl) (.cons (.free rfl) (.cons (.free rfl) (.cons (.free rfl) (.cons (.free rfl) (.cons (.free rfl) (.cons (.free rfl) (.cons (.free rfl) (.cons (.ref rfl) (.cons (.ref rfl) (.cons (.ref rfl) .nil)))))))))))), rowsZ_one rfl⟩, ⟨rfl, _, rfl, rfl, rfl, rfl, id, rowsCv_eq rfl (allFree_map recV_free), rowsZ_map recV_len⟩, ⟨rfl, _, rfl, rfl, rfl, rfl, id, rowsCv_eq rfl (allFree_map recV_free), rowsZ_map recV_len⟩, ⟨rfl, _, rfl, rfl, rfl, rfl, id, rowsCv_eq rfl (allFree_map recV_free), rowsZ_map recV_len⟩, ⟨rfl, _, rfl, rfl, rfl, rfl, id, rowsCv_eq rfl (allFree_map intV_free), rowsZ_map intV_len⟩, ⟨rfl, _, rfl, rfl, rfl, rfl, id, (rowsCv_cons (.cons (.ptr rfl) .nil) (rowsCv_cons (.cons (.ptr rfl) .nil) (rowsCv_cons (.cons (.ptr rfl) .nil) rowsCv_nil))), (rowsZ_cons rfl (rowsZ_cons rfl (rowsZ_cons rfl rowsZ_nil)))⟩, trivial⟩ trivial rfl rfl ?_
       exact ⟨(.free rfl), (.ptr rfl), (.ptr rfl), (.free rfl), (.free rfl), (.ref rfl), (.ref rfl), (.free rfl), (.free rfl), trivial⟩
      refine tri_sr ?_
      refine s_of (st_lss rfl rfl rfl) rfl rfl rfl rfl ?_
      refine rt_nil ?_
      refine tri_seq ?_
      refine tri_cond rfl (fun hc => ?_) (fun hc => ?_)
      ·skip
       refine tri_skip ?_
       refine tri_seq ?_
       refine tri_block ?_
       refine tri_sr ?_
       refine m1 ?_
       refine s_index0 (i := 1) rfl rfl rfl rfl sl51 rfl (by decide) rfl rfl rfl ?_
       refine s_load rfl rfl rfl rfl ty50 rfl (.inr rfl) (by conv => lhs; whnf) rfl rfl rfl ?_
       refine m2 ?_
       refine m2 ?_
       refine rt_nil ?_
       refine tri_sr ?_
       refine m1 ?_
       refine s_of (st_eqI rfl rfl rfl) rfl rfl rfl rfl ?_
       refine rt_nil ?_
       refine tri_cond rfl (fun c40 => ?_) (fun c40 => ?_)
       ·replace h := cond_t h c40
        refine tri_region ?_
        refine m1 ?_
        refine m1 ?_
        refine m1 ?_
        refine m1 ?_
        refine m1 ?_
        refine bnd1_elim h fun x41 q42 h => ?_
        have q42a := (idx_some q42).1; have q42b := (idx_some q42).2
        refine s_indexZ rfl rfl rfl rfl sl49 rfl q42a (get_lt q42b) rfl rfl rfl ?_
        refine s_load rfl rfl rfl (rowG q42b) ty3 rfl (.inr rfl) (by conv => lhs; whnf) rfl rfl rfl ?_
        refine bnd3_elim h fun x43 x44 x45 q46 h => ?_
        refine s_callN (kb := []) (ns := []) (v := .tup [.ref (63, 100) 0 x43.length, .sc (.int .i64 x44), .sc (.int .i64 x45)]) rfl rfl cl25 (wi_GetRecords p0 x9 x41 x43 x44 x45 q46) rfl (.cons (.free rfl) (.cons (.free rfl) (.cons (.free rfl) .nil))) trivial memNil .nil memNil rfl ⟨(allSc_map recV_sc), trivial⟩ memNil rfl (by simp only [V.mat, V.mat1, V.mat0, matL, matT, List.length_map] <;> rfl) rfl rfl rfl rfl ?_
        refine m1 ?_
        refine s_extract rfl rfl rfl rfl rfl rfl ?_
        refine s_extract rfl rfl rfl rfl rfl rfl ?_
        refine s_extract rfl rfl rfl rfl rfl rfl ?_
        refine s_nilCheck rfl (by conv => lhs; whnf) (.inl ⟨_, _, _, rfl⟩) rfl rfl rfl ?_
        refine s_store (rows' := [[.sc (.int .i64 x1.id), .sc (.bool x1.reply), .sc (.bool x1.auth), .sc (.bool x1.cut), .sc (.bool x1.want), .sc (.bool x1.can), .sc (.int .i64 x1.code), .sc (.string x8.name), .sc (.int .i64 x8.ty), .ref (17, 109) 0 x1.an.length, .ref (63, 100) 0 x43.length, .ref (17, 111) 0 x1.ad.length]]) rfl rfl rfl rfl ty31 rfl rfl rfl rfl rfl rfl ?_
        refine m2 ?_
        refine m2 ?_
        refine rt_nil ?_
        refine tri_region ?_
        refine s_addI (c := 2) rfl rfl rfl rfl (by decide) rfl rfl rfl ?_
        refine m1 ?_
        refine rt_nil ?_
        show Tri _ _ _ _
        refine Tri.ent (st' := mkT 79 [(0, .lst 1 (List.map byteV p0)), (2, .ptr (2, 0) 0 0), (4, .ptr (4, 0) 0 0), (10, .sc (.int .i64 x44)), (11, .sc (.int .i64 x45)), (12, .ref (42, 0) 0 ([x2, x3, x4].length)), (46, .ref (46, 0) 0 3), (47, .sc (.int .i64 (3 : Int))), (48, .sc (.int .i64 2))] [((2, 0), some ⟨33, 12, [[.sc (.int .i64 0), .sc (.bool false), .sc (.bool false), .sc (.bool false), .sc (.bool false), .sc (.bool false), .sc (.int .i64 0), .sc (.string (⟨#[]⟩ : ByteArray)), .sc (.int .i64 0), .nils, .nils, .nils]], false, true⟩), ((4, 0), some ⟨33, 12, [[.sc (.int .i64 x1.id), .sc (.bool x1.reply), .sc (.bool x1.auth), .sc (.bool x1.cut), .sc (.bool x1.want), .sc (.bool x1.can), .sc (.int .i64 x1.code), .sc (.string x8.name), .sc (.int .i64 x8.ty), .ref (17, 109) 0 x1.an.length, .ref (3463, 100) 0 x43.length, .ref (17, 111) 0 x1.ad.length]], false, true⟩), ((17, 109), some ⟨62, 6, List.map recV x1.an, false, true⟩), ((3463, 100), some ⟨62, 6, List.map recV x43, false, true⟩), ((17, 111), some ⟨62, 6, List.map recV x1.ad, false, true⟩), ((42, 0), some ⟨3, 1, List.map intV [x2, x3, x4], false, true⟩), ((46, 0), some ⟨50, 1, [[.ptr (4, 0) 0 9], [.ptr (4, 0) 0 10], [.ptr (4, 0) 0 11]], false, true⟩)]) ?_ ?_
        ·skip
         refine entX [((2, 0), ⟨33, 12, [[.sc (.int .i64 0), .sc (.bool false), .sc (.bool false), .sc (.bool false), .sc (.bool false), .sc (.bool false), .sc (.int .i64 0), .sc (.string (⟨#[]⟩ : ByteArray)), .sc (.int .i64 0), .nils, .nils, .nils]], false, true⟩, some (2, 0)), ((4, 0), ⟨33, 12, [[.sc (.int .i64 x1.id), .sc (.bool x1.reply), .sc (.bool x1.auth), .sc (.bool x1.cut), .sc (.bool x1.want), .sc (.bool x1.can), .sc (.int .i64 x1.code), .sc (.string x8.name), .sc (.int .i64 x8.ty), .ref (17, 109) 0 x1.an.length, .ref (3463, 100) 0 x43.length, .ref (17, 111) 0 x1.ad.length]], false, true⟩, some (4, 0)), ((17, 109), ⟨62, 6, List.map recV x1.an, false, true⟩, some (17, 109)), ((3463, 100), ⟨62, 6, List.map recV x43, false, true⟩, some (63, 100)), ((17, 111), ⟨62, 6, List.map recV x1.ad, false, true⟩, some (17, 111)), ((42, 0), ⟨3, 1, List.map intV [x2, x3, x4], false, true⟩, some (42, 0)), ((46, 0), ⟨50, 1, [[.ptr (4, 0) 0 9], [.ptr (4, 0) 0 10], [.ptr (4, 0) 0 11]], false, true⟩, some (46, 0))] [] ⟨⟨rfl, _, rfl, rfl, rfl, rfl, id, rowsCv_one (.cons (.free rfl) (.cons (.free rfl) (.cons (.free rfl) (.cons (.free rfl) (.cons (.free rfl) (.cons (.free rfl) (.cons (.free rfl) (.cons (.free rfl) (.cons (.free rfl) (.cons (.free rfl) (.cons (.free rfl) (.cons (.free rfl) .nil)))))))))))), rowsZ_one rfl⟩, ⟨rfl, _, rfl, rfl, rfl, rfl, id, rowsCv_one (.cons (.free rfl) (.cons (.free rfl) (.cons (.free rfl) (.cons (.free rfl) (.cons (.free rfl) (.cons (.free rfl) (.cons (.free rfl) (.cons (.free rfl) (.cons (.free rfl) (.cons (.ref rfl) (.cons (.ref rfl) (.cons (.ref rfl) .nil)))))))))))), rowsZ_one rfl⟩, ⟨rfl, _, rfl, rfl, rfl, rfl, id, rowsCv_eq rfl (allFree_map recV_free), rowsZ_map recV_len⟩, ⟨rfl, _, rfl, rfl, rfl, rfl, id, rowsCv_eq rfl (allFree_map recV_free), rowsZ_map recV_len⟩, ⟨rfl, _, rfl, rfl, rfl, rfl, id, rowsCv_eq rfl (allFree_map recV_free), rowsZ_map recV_len⟩, ⟨rfl, _, rfl, rfl, rfl, rfl, id, rowsCv_eq rfl (allFree_map intV_free), rowsZ_map intV_len⟩, ⟨rfl, _, rfl, rfl, rfl, rfl, id, (rowsCv_cons (.cons (.ptr rfl) .nil) (rowsCv_cons (.cons (.ptr rfl) .nil) (rowsCv_cons (.cons (.ptr rfl) .nil) rowsCv_nil))), (rowsZ_cons rfl (rowsZ_cons rfl (rowsZ_cons rfl rowsZ_nil)))⟩, trivial⟩ trivial rfl rfl ?_
         exact ⟨(.free rfl), (.ptr rfl), (.ptr rfl), (.free rfl), (.free rfl), (.ref rfl), (.ref rfl), (.free rfl), (.free rfl), trivial⟩
        refine tri_sr ?_
        refine s_of (st_lss rfl rfl rfl) rfl rfl rfl rfl ?_
        refine rt_nil ?_
        refine tri_seq ?_
        refine tri_cond rfl (fun hc => ?_) (fun hc => ?_)
        ·skip
         refine tri_skip ?_
         refine tri_seq ?_
         refine tri_block ?_
         refine tri_sr ?_
         refine m1 ?_
         refine s_index0 (i := 2) rfl rfl rfl rfl sl51 rfl (by decide) rfl rfl rfl ?_
         refine s_load rfl rfl rfl rfl ty50 rfl (.inr rfl) (by conv => lhs; whnf) rfl rfl rfl ?_
         refine m2 ?_
         refine m2 ?_
         refine rt_nil ?_
         refine tri_sr ?_
         refine m1 ?_
         refine s_of (st_eqI rfl rfl rfl) rfl rfl rfl rfl ?_
         refine rt_nil ?_
         refine tri_cond rfl (fun c47 => ?_) (fun c47 => ?_)
         ·replace h := cond_t h c47
          refine tri_region ?_
          refine m1 ?_
          refine m1 ?_
          refine m1 ?_
          refine m1 ?_
          refine m1 ?_
          refine bnd1_elim h fun x48 q49 h => ?_
          have q49a := (idx_some q49).1; have q49b := (idx_some q49).2
          refine s_indexZ rfl rfl rfl rfl sl49 rfl q49a (get_lt q49b) rfl rfl rfl ?_
          refine s_load rfl rfl rfl (rowG q49b) ty3 rfl (.inr rfl) (by conv => lhs; whnf) rfl rfl rfl ?_
          refine bnd3_elim h fun x50 x51 x52 q53 h => ?_
          refine s_callN (kb := []) (ns := []) (v := .tup [.ref (63, 100) 0 x50.length, .sc (.int .i64 x51), .sc (.int .i64 x52)]) rfl rfl cl25 (wi_GetRecords p0 x44 x48 x50 x51 x52 q53) rfl (.cons (.free rfl) (.cons (.free rfl) (.cons (.free rfl) .nil))) trivial memNil .nil memNil rfl ⟨(allSc_map recV_sc), trivial⟩ memNil rfl (by simp only [V.mat, V.mat1, V.mat0, matL, matT, List.length_map] <;> rfl) rfl rfl rfl rfl ?_
          refine m1 ?_
          refine s_extract rfl rfl rfl rfl rfl rfl ?_
          refine s_extract rfl rfl rfl rfl rfl rfl ?_
          refine s_extract rfl rfl rfl rfl rfl rfl ?_
          refine s_nilCheck rfl (by conv => lhs; whnf) (.inl ⟨_, _, _, rfl⟩) rfl rfl rfl ?_
          refine s_store (rows' := [[.sc (.int .i64 x1.id), .sc (.bool x1.reply), .sc (.bool x1.auth), .sc (.bool x1.cut), .sc (.bool x1.want), .sc (.bool x1.can), .sc (.int .i64 x1.code), .sc (.string x8.name), .sc (.int .i64 x8.ty), .ref (17, 109) 0 x1.an.length, .ref (3463, 100) 0 x43.length, .ref (63, 100) 0 x50.length]]) rfl rfl rfl rfl ty31 rfl rfl rfl rfl rfl rfl ?_
          refine m2 ?_
          refine m2 ?_
          refine rt_nil ?_
          refine tri_region ?_
          refine s_addI (c := 3) rfl rfl rfl rfl (by decide) rfl rfl rfl ?_
          refine m1 ?_
          refine rt_nil ?_
          show Tri _ _ _ _
          refine Tri.ent (st' := mkT 79 [(0, .lst 1 (List.map byteV p0)), (2, .ptr (2, 0) 0 0), (4, .ptr (4, 0) 0 0), (10, .sc (.int .i64 x51)), (11, .sc (.int .i64 x52)), (12, .ref (42, 0) 0 ([x2, x3, x4].length)), (46, .ref (46, 0) 0 3), (47, .sc (.int .i64 (3 : Int))), (48, .sc (.int .i64 3))] [((2, 0), some ⟨33, 12, [[.sc (.int .i64 0), .sc (.bool false), .sc (.bool false), .sc (.bool false), .sc (.bool false), .sc (.bool false), .sc (.int .i64 0), .sc (.string (⟨#[]⟩ : ByteArray)), .sc (.int .i64 0), .nils, .nils, .nils]], false, true⟩), ((4, 0), some ⟨33, 12, [[.sc (.int .i64 x1.id), .sc (.bool x1.reply), .sc (.bool x1.auth), .sc (.bool x1.cut), .sc (.bool x1.want), .sc (.bool x1.can), .sc (.int .i64 x1.code), .sc (.string x8.name), .sc (.int .i64 x8.ty), .ref (17, 109) 0 x1.an.length, .ref (3463, 100) 0 x43.length, .ref (3663, 100) 0 x50.length]], false, true⟩), ((17, 109), some ⟨62, 6, List.map recV x1.an, false, true⟩), ((3463, 100), some ⟨62, 6, List.map recV x43, false, true⟩), ((3663, 100), some ⟨62, 6, List.map recV x50, false, true⟩), ((42, 0), some ⟨3, 1, List.map intV [x2, x3, x4], false, true⟩), ((46, 0), some ⟨50, 1, [[.ptr (4, 0) 0 9], [.ptr (4, 0) 0 10], [.ptr (4, 0) 0 11]], false, true⟩)]) ?_ ?_
          ·skip
           refine entX [((2, 0), ⟨33, 12, [[.sc (.int .i64 0), .sc (.bool false), .sc (.bool false), .sc (.bool false), .sc (.bool false), .sc (.bool false), .sc (.int .i64 0), .sc (.string (⟨#[]⟩ : ByteArray)), .sc (.int .i64 0), .nils, .nils, .nils]], false, true⟩, some (2, 0)), ((4, 0), ⟨33, 12, [[.sc (.int .i64 x1.id), .sc (.bool x1.reply), .sc (.bool x1.auth), .sc (.bool x1.cut), .sc (.bool x1.want), .sc (.bool x1.can), .sc (.int .i64 x1.code), .sc (.string x8.name), .sc (.int .i64 x8.ty), .ref (17, 109) 0 x1.an.length, .ref (3463, 100) 0 x43.length, .ref (3663, 100) 0 x50.length]], false, true⟩, some (4, 0)), ((17, 109), ⟨62, 6, List.map recV x1.an, false, true⟩, some (17, 109)), ((3463, 100), ⟨62, 6, List.map recV x43, false, true⟩, some (3463, 100)), ((3663, 100), ⟨62, 6, List.map recV x50, false, true⟩, some (63, 100)), ((42, 0), ⟨3, 1, List.map intV [x2, x3, x4], false, true⟩, some (42, 0)), ((46, 0), ⟨50, 1, [[.ptr (4, 0) 0 9], [.ptr (4, 0) 0 10], [.ptr (4, 0) 0 11]], false, true⟩, some (46, 0))] [] ⟨⟨rfl, _, rfl, rfl, rfl, rfl, id, rowsCv_one (.cons (.free rfl) (.cons (.free rfl) (.cons (.free rfl) (.cons (.free rfl) (.cons (.free rfl) (.cons (.free rfl) (.cons (.free rfl) (.cons (.free rfl) (.cons (.free rfl) (.cons (.free rfl) (.cons (.free rfl) (.cons (.free rfl) .nil)))))))))))), rowsZ_one rfl⟩, ⟨rfl, _, rfl, rfl, rfl, rfl, id, rowsCv_one (.cons (.free rfl) (.cons (.free rfl) (.cons (.free rfl) (.cons (.free rfl) (.cons (.free rfl) (.cons (.free rfl) (.cons (.free rfl) (.cons (.free rfl) (.cons (.free rfl) (.cons (.ref rfl) (.cons (.ref rfl) (.cons (.ref rfl) .nil)))))))))))), rowsZ_one rfl⟩, ⟨rfl, _, rfl, rfl, rfl, rfl, id, rowsCv_eq rfl (allFree_map recV_free), rowsZ_map recV_len⟩, ⟨rfl, _, rfl, rfl, rfl, rfl, id, rowsCv_eq rfl (allFree_map recV_free), rowsZ_map recV_len⟩, ⟨rfl, _, rfl, rfl, rfl, rfl, id, rowsCv_eq rfl (allFree_map recV_free), rowsZ_map recV_len⟩, ⟨rfl, _, rfl, rfl, rfl, rfl, id, rowsCv_eq rfl (allFree_map intV_free), rowsZ_map intV_len⟩, ⟨rfl, _, rfl, rfl, rfl, rfl, id, (rowsCv_cons (.cons (.ptr rfl) .nil) (rowsCv_cons (.cons (.ptr rfl) .nil) (rowsCv_cons (.cons (.ptr rfl) .nil) rowsCv_nil))), (rowsZ_cons rfl (rowsZ_cons rfl (rowsZ_cons rfl rowsZ_nil)))⟩, trivial⟩ trivial rfl rfl ?_
           exact ⟨(.free rfl), (.ptr rfl), (.ptr rfl), (.free rfl), (.free rfl), (.ref rfl), (.ref rfl), (.free rfl), (.free rfl), trivial⟩
          refine tri_sr ?_
          refine s_of (st_lss rfl rfl rfl) rfl rfl rfl rfl ?_
          refine rt_nil ?_
          refine tri_seq ?_
          refine tri_cond rfl (fun hc => ?_) (fun hc => ?_)
          ·exact absurd hc (by decide)
          ·skip
           refine tri_exit ?_
           refine Exists.intro ⟨(x1.an, x43, x50, x51, x52), h⟩ ?_
           refine entX [((2, 0), ⟨33, 12, [[.sc (.int .i64 0), .sc (.bool false), .sc (.bool false), .sc (.bool false), .sc (.bool false), .sc (.bool false), .sc (.int .i64 0), .sc (.string (⟨#[]⟩ : ByteArray)), .sc (.int .i64 0), .nils, .nils, .nils]], false, true⟩, some (2, 0)), ((4, 0), ⟨33, 12, [[.sc (.int .i64 x1.id), .sc (.bool x1.reply), .sc (.bool x1.auth), .sc (.bool x1.cut), .sc (.bool x1.want), .sc (.bool x1.can), .sc (.int .i64 x1.code), .sc (.string x8.name), .sc (.int .i64 x8.ty), .ref (2004, 10) 0 x1.an.length, .ref (2004, 11) 0 x43.length, .ref (2004, 12) 0 x50.length]], false, true⟩, some (4, 0)), ((2004, 10), ⟨62, 6, List.map recV x1.an, false, true⟩, some (17, 109)), ((2004, 11), ⟨62, 6, List.map recV x43, false, true⟩, some (3463, 100)), ((2004, 12), ⟨62, 6, List.map recV x50, false, true⟩, some (3663, 100))] [] ⟨⟨rfl, _, rfl, rfl, rfl, rfl, id, rowsCv_one (.cons (.free rfl) (.cons (.free rfl) (.cons (.free rfl) (.cons (.free rfl) (.cons (.free rfl) (.cons (.free rfl) (.cons (.free rfl) (.cons (.free rfl) (.cons (.free rfl) (.cons (.free rfl) (.cons (.free rfl) (.cons (.free rfl) .nil)))))))))))), rowsZ_one rfl⟩, ⟨rfl, _, rfl, rfl, rfl, rfl, id, rowsCv_one (.cons (.free rfl) (.cons (.free rfl) (.cons (.free rfl) (.cons (.free rfl) (.cons (.free rfl) (.cons (.free rfl) (.cons (.free rfl) (.cons (.free rfl) (.cons (.free rfl) (.cons (.ref rfl) (.cons (.ref rfl) (.cons (.ref rfl) .nil)))))))))))), rowsZ_one rfl⟩, ⟨rfl, _, rfl, rfl, rfl, rfl, id, rowsCv_eq rfl (allFree_map recV_free), rowsZ_map recV_len⟩, ⟨rfl, _, rfl, rfl, rfl, rfl, id, rowsCv_eq rfl (allFree_map recV_free), rowsZ_map recV_len⟩, ⟨rfl, _, rfl, rfl, rfl, rfl, id, rowsCv_eq rfl (allFree_map recV_free), rowsZ_map recV_len⟩, trivial⟩ trivial rfl rfl ?_
           exact ⟨(.free rfl), (.ptr rfl), (.ptr rfl), (.free rfl), (.free rfl), trivial⟩
         ·replace h := cond_f h c47
          refine tri_skip ?_
          refine tri_region ?_
          refine s_addI (c := 3) rfl rfl rfl rfl (by decide) rfl rfl rfl ?_
          refine m1 ?_
          refine rt_nil ?_
          show Tri _ _ _ _
          refine Tri.ent (st' := mkT 79 [(0, .lst 1 (List.map byteV p0)), (2, .ptr (2, 0) 0 0), (4, .ptr (4, 0) 0 0), (10, .sc (.int .i64 x44)), (11, .sc (.int .i64 x45)), (12, .ref (42, 0) 0 ([x2, x3, x4].length)), (46, .ref (46, 0) 0 3), (47, .sc (.int .i64 (3 : Int))), (48, .sc (.int .i64 3))] [((2, 0), some ⟨33, 12, [[.sc (.int .i64 0), .sc (.bool false), .sc (.bool false), .sc (.bool false), .sc (.bool false), .sc (.bool false), .sc (.int .i64 0), .sc (.string (⟨#[]⟩ : ByteArray)), .sc (.int .i64 0), .nils, .nils, .nils]], false, true⟩), ((4, 0), some ⟨33, 12, [[.sc (.int .i64 x1.id), .sc (.bool x1.reply), .sc (.bool x1.auth), .sc (.bool x1.cut), .sc (.bool x1.want), .sc (.bool x1.can), .sc (.int .i64 x1.code), .sc (.string x8.name), .sc (.int .i64 x8.ty), .ref (17, 109) 0 x1.an.length, .ref (3463, 100) 0 x43.length, .ref (17, 111) 0 x1.ad.length]], false, true⟩), ((17, 109), some ⟨62, 6, List.map recV x1.an, false, true⟩), ((3463, 100), some ⟨62, 6, List.map recV x43, false, true⟩), ((17, 111), some ⟨62, 6, List.map recV x1.ad, false, true⟩), ((42, 0), some ⟨3, 1, List.map intV [x2, x3, x4], false, true⟩), ((46, 0), some ⟨50, 1, [[.ptr (4, 0) 0 9], [.ptr (4, 0) 0 10], [.ptr (4, 0) 0 11]], false, true⟩)]) ?_ ?_
          ·skip
           refine entX [((2, 0), ⟨33, 12, [[.sc (.int .i64 0), .sc (.bool false), .sc (.bool false), .sc (.bool false), .sc (.bool false), .sc (.bool false), .sc (.int .i64 0), .sc (.string (⟨#[]⟩ : ByteArray)), .sc (.int .i64 0), .nils, .nils, .nils]], false, true⟩, some (2, 0)), ((4, 0), ⟨33, 12, [[.sc (.int .i64 x1.id), .sc (.bool x1.reply), .sc (.bool x1.auth), .sc (.bool x1.cut), .sc (.bool x1.want), .sc (.bool x1.can), .sc (.int .i64 x1.code), .sc (.string x8.name), .sc (.int .i64 x8.ty), .ref (17, 109) 0 x1.an.length, .ref (3463, 100) 0 x43.length, .ref (17, 111) 0 x1.ad.length]], false, true⟩, some (4, 0)), ((17, 109), ⟨62, 6, List.map recV x1.an, false, true⟩, some (17, 109)), ((3463, 100), ⟨62, 6, List.map recV x43, false, true⟩, some (3463, 100)), ((17, 111), ⟨62, 6, List.map recV x1.ad, false, true⟩, some (17, 111)), ((42, 0), ⟨3, 1, List.map intV [x2, x3, x4], false, true⟩, some (42, 0)), ((46, 0), ⟨50, 1, [[.ptr (4, 0) 0 9], [.ptr (4, 0) 0 10], [.ptr (4, 0) 0 11]], false, true⟩, some (46, 0))] [] ⟨⟨rfl, _, rfl, rfl, rfl, rfl, id, rowsCv_one (.cons (.free rfl) (.cons (.free rfl) (.cons (.free rfl) (.cons (.free rfl) (.cons (.free rfl) (.cons (.free rfl) (.cons (.free rfl) (.cons (.free rfl) (.cons (.free rfl) (.cons (.free rfl) (.cons (.free rfl) (.cons (.free rfl) .nil)))))))))))), rowsZ_one rfl⟩, ⟨rfl, _, rfl, rfl, rfl, rfl, id, rowsCv_one (.cons (.free rfl) (.cons (.free rfl) (.cons (.free rfl) (.cons (.free rfl) (.cons (.free rfl) (.cons (.free rfl) (.cons (.free rfl) (.cons (.free rfl) (.cons (.free rfl) (.cons (.ref rfl) (.cons (.ref rfl) (.cons (.ref rfl) .nil)))))))))))), rowsZ_one rfl⟩, ⟨rfl, _, rfl, rfl, rfl, rfl, id, rowsCv_eq rfl (allFree_map recV_free), rowsZ_map recV_len⟩, ⟨rfl, _, rfl, rfl, rfl, rfl, id, rowsCv_eq rfl (allFree_map recV_free), rowsZ_map recV_len⟩, ⟨rfl, _, rfl, rfl, rfl, rfl, id, rowsCv_eq rfl (allFree_map recV_free), rowsZ_map recV_len⟩, ⟨rfl, _, rfl, rfl, rfl, rfl, id, rowsCv_eq rfl (allFree_map intV_free), rowsZ_map intV_len⟩, ⟨rfl, _, rfl, rfl, rfl, rfl, id, (rowsCv_cons (.cons (.ptr rfl) .nil) (rowsCv_cons (.cons (.ptr rfl) .nil) (rowsCv_cons (.cons (.ptr rfl) .nil) rowsCv_nil))), (rowsZ_cons rfl (rowsZ_cons rfl (rowsZ_cons rfl rowsZ_nil)))⟩, trivial⟩ trivial rfl rfl ?_
           exact ⟨(.free rfl), (.ptr rfl), (.ptr rfl), (.free rfl), (.free rfl), (.ref rfl), (.ref rfl), (.free rfl), (.free rfl), trivial⟩
          refine tri_sr ?_
          refine s_of (st_lss rfl rfl rfl) rfl rfl rfl rfl ?_
          refine rt_nil ?_
          refine tri_seq ?_
          refine tri_cond rfl (fun hc => ?_) (fun hc => ?_)
          ·exact absurd hc (by decide)
          ·skip
           refine tri_exit ?_
           refine Exists.intro ⟨(x1.an, x43, x1.ad, x44, x45), h⟩ ?_
           refine entX [((2, 0), ⟨33, 12, [[.sc (.int .i64 0), .sc (.bool false), .sc (.bool false), .sc (.bool false), .sc (.bool false), .sc (.bool false), .sc (.int .i64 0), .sc (.string (⟨#[]⟩ : ByteArray)), .sc (.int .i64 0), .nils, .nils, .nils]], false, true⟩, some (2, 0)), ((4, 0), ⟨33, 12, [[.sc (.int .i64 x1.id), .sc (.bool x1.reply), .sc (.bool x1.auth), .sc (.bool x1.cut), .sc (.bool x1.want), .sc (.bool x1.can), .sc (.int .i64 x1.code), .sc (.string x8.name), .sc (.int .i64 x8.ty), .ref (2004, 10) 0 x1.an.length, .ref (2004, 11) 0 x43.length, .ref (2004, 12) 0 x1.ad.length]], false, true⟩, some (4, 0)), ((2004, 10), ⟨62, 6, List.map recV x1.an, false, true⟩, some (17, 109)), ((2004, 11), ⟨62, 6, List.map recV x43, false, true⟩, some (3463, 100)), ((2004, 12), ⟨62, 6, List.map recV x1.ad, false, true⟩, some (17, 111))] [] ⟨⟨rfl, _, rfl, rfl, rfl, rfl, id, rowsCv_one (.cons (.free rfl) (.cons (.free rfl) (.cons (.free rfl) (.cons (.free rfl) (.cons (.free rfl) (.cons (.free rfl) (.cons (.free rfl) (.cons (.free rfl) (.cons (.free rfl) (.cons (.free rfl) (.cons (.free rfl) (.cons (.free rfl) .nil)))))))))))), rowsZ_one rfl⟩, ⟨rfl, _, rfl, rfl, rfl, rfl, id, rowsCv_one (.cons (.free rfl) (.cons (.free rfl) (.cons (.free rfl) (.cons (.free rfl) (.cons (.free rfl) (.cons (.free rfl) (.cons (.free rfl) (.cons (.free rfl) (.cons (.free rfl) (.cons (.ref rfl) (.cons (.ref rfl) (.cons (.ref rfl) .nil)))))))))))), rowsZ_one rfl⟩, ⟨rfl, _, rfl, rfl, rfl, rfl, id, rowsCv_eq rfl (allFree_map recV_free), rowsZ_map recV_len⟩, ⟨rfl, _, rfl, rfl, rfl, rfl, id, rowsCv_eq rfl (allFree_map recV_free), rowsZ_map recV_len⟩, ⟨rfl, _, rfl, rfl, rfl, rfl, id, rowsCv_eq rfl (allFree_map recV_free), rowsZ_map recV_len⟩, trivial⟩ trivial rfl rfl ?_
           exact ⟨(.free rfl), (.ptr rfl), (.ptr rfl), (.free rfl), (.free rfl), trivial⟩
        ·exact absurd hc (by decide)
       ·replace h := cond_f h c40
        refine tri_skip ?_
        refine tri_region ?_
        refine s_addI (c := 2) rfl rfl rfl rfl (by decide) rfl rfl rfl ?_
        refine m1 ?_
        refine rt_nil ?_
        show Tri _ _ _ _
        refine Tri.ent (st' := mkT 79 [(0, .lst 1 (List.map byteV p0)), (2, .ptr (2, 0) 0 0), (4, .ptr (4, 0) 0 0), (10, .sc (.int .i64 x9)), (11, .sc (.int .i64 x10)), (12, .ref (42, 0) 0 ([x2, x3, x4].length)), (46, .ref (46, 0) 0 3), (47, .sc (.int .i64 (3 : Int))), (48, .sc (.int .i64 2))] [((2, 0), some ⟨33, 12, [[.sc (.int .i64 0), .sc (.bool false), .sc (.bool false), .sc (.bool false), .sc (.bool false), .sc (.bool false), .sc (.int .i64 0), .sc (.string (⟨#[]⟩ : ByteArray)), .sc (.int .i64 0), .nils, .nils, .nils]], false, true⟩), ((4, 0), some ⟨33, 12, [[.sc (.int .i64 x1.id), .sc (.bool x1.reply), .sc (.bool x1.auth), .sc (.bool x1.cut), .sc (.bool x1.want), .sc (.bool x1.can), .sc (.int .i64 x1.code), .sc (.string x8.name), .sc (.int .i64 x8.ty), .ref (17, 109) 0 x1.an.length, .ref (17, 110) 0 x1.au.length, .ref (17, 111) 0 x1.ad.length]], false, true⟩), ((17, 109), some ⟨62, 6, List.map recV x1.an, false, true⟩), ((17, 110), some ⟨62, 6, List.map recV x1.au, false, true⟩), ((17, 111), some ⟨62, 6, List.map recV x1.ad, false, true⟩), ((42, 0), some ⟨3, 1, List.map intV [x2, x3, x4], false, true⟩), ((46, 0), some ⟨50, 1, [[.ptr (4, 0) 0 9], [.ptr (4, 0) 0 10], [.ptr (4, 0) 0 11]], false, true⟩)]) ?_ ?_
        ·skip
         refine entX [((2, 0), ⟨33, 12, [[.sc (.int .i64 0), .sc (.bool false), .sc (.bool false), .sc (.bool false), .sc (.bool false), .sc (.bool false), .sc (.int .i64 0), .sc (.string (⟨#[]⟩ : ByteArray)), .sc (.int .i64 0), .nils, .nils, .nils]], false, true⟩, some (2, 0)), ((4, 0), ⟨33, 12, [[.sc (.int .i64 x1.id), .sc (.bool x1.reply), .sc (.bool x1.auth), .sc (.bool x1.cut), .sc (.bool x1.want), .sc (.bool x1.can), .sc (.int .i64 x1.code), .sc (.string x8.name), .sc (.int .i64 x8.ty), .ref (17, 109) 0 x1.an.length, .ref (17, 110) 0 x1.au.length, .ref (17, 111) 0 x1.ad.length]], false, true⟩, some (4, 0)), ((17, 109), ⟨62, 6, List.map recV x1.an, false, true⟩, some (17, 109)), ((17, 110), ⟨62, 6, List.map recV x1.au, false, true⟩, some (17, 110)), ((17, 111), ⟨62, 6, List.map recV x1.ad, false, true⟩, some (17, 111)), ((42, 0), ⟨3, 1, List.map intV [x2, x3, x4], false, true⟩, some (42, 0)), ((46, 0), ⟨50, 1, [[.ptr (4, 0) 0 9], [.ptr (4, 0) 0 10], [.ptr (4, 0) 0 11]], false, true⟩, some (46, 0))] [] ⟨⟨rfl, _, rfl, rfl, rfl, rfl, id, rowsCv_one (.cons (.free rfl) (.cons (.free rfl) (.cons (.free rfl) (.cons (.free rfl) (.cons (.free rfl) (.cons (.free rfl) (.cons (.free rfl) (.cons (.free rfl) (.cons (.free rfl) (.cons (.free rfl) (.cons (.free rfl) (.cons (.free rfl) .nil)))))))))))), rowsZ_one rfl⟩, ⟨rfl, _, rfl, rfl, rfl, rfl, id, rowsCv_one (.cons (.free rfl) (.cons (.free rfl) (.cons (.free rfl) (.cons (.free rfl) (.cons (.free rfl) (.cons (.free rfl) (.cons (.free rfl) (.cons (.free rfl) (.cons (.free rfl) (.cons (.ref rfl) (.cons (.ref rfl) (.cons (.ref rfl) .nil)))))))))))), rowsZ_one rfl⟩, ⟨rfl, _, rfl, rfl, rfl, rfl, id, rowsCv_eq rfl (allFree_map recV_free), rowsZ_map recV_len⟩, ⟨rfl, _, rfl, rfl, rfl, rfl, id, rowsCv_eq rfl (allFree_map recV_free), rowsZ_map recV_len⟩, ⟨rfl, _, rfl, rfl, rfl, rfl, id, rowsCv_eq rfl (allFree_map recV_free), rowsZ_map recV_len⟩, ⟨rfl, _, rfl, rfl, rfl, rfl, id, rowsCv_eq rfl (allFree_map intV_free), rowsZ_map intV_len⟩, ⟨rfl, _, rfl, rfl, rfl, rfl, id, (rowsCv_cons (.cons (.ptr rfl) .nil) (rowsCv_cons (.cons (.ptr rfl) .nil) (rowsCv_cons (.cons (.ptr rfl) .nil) rowsCv_nil))), (rowsZ_cons rfl (rowsZ_cons rfl (rowsZ_cons rfl rowsZ_nil)))⟩, trivial⟩ trivial rfl rfl ?_
         exact ⟨(.free rfl), (.ptr rfl), (.ptr rfl), (.free rfl), (.free rfl), (.ref rfl), (.ref rfl), (.free rfl), (.free rfl), trivial⟩
        refine tri_sr ?_
        refine s_of (st_lss rfl rfl rfl) rfl rfl rfl rfl ?_
        refine rt_nil ?_
        refine tri_seq ?_
        refine tri_cond rfl (fun hc => ?_) (fun hc => ?_)
        ·skip
         refine tri_skip ?_
         refine tri_seq ?_
         refine tri_block ?_
         refine tri_sr ?_
         refine m1 ?_
         refine s_index0 (i := 2) rfl rfl rfl rfl sl51 rfl (by decide) rfl rfl rfl ?_
         refine s_load rfl rfl rfl rfl ty50 rfl (.inr rfl) (by conv => lhs; whnf) rfl rfl rfl ?_
         refine m2 ?_
         refine m2 ?_
         refine rt_nil ?_
         refine tri_sr ?_
         refine m1 ?_
         refine s_of (st_eqI rfl rfl rfl) rfl rfl rfl rfl ?_
         refine rt_nil ?_
         refine tri_cond rfl (fun c54 => ?_) (fun c54 => ?_)
         ·replace h := cond_t h c54
          refine tri_region ?_
          refine m1 ?_
          refine m1 ?_
          refine m1 ?_
          refine m1 ?_
          refine m1 ?_
          refine bnd1_elim h fun x55 q56 h => ?_
          have q56a := (idx_some q56).1; have q56b := (idx_some q56).2
          refine s_indexZ rfl rfl rfl rfl sl49 rfl q56a (get_lt q56b) rfl rfl rfl ?_
          refine s_load rfl rfl rfl (rowG q56b) ty3 rfl (.inr rfl) (by conv => lhs; whnf) rfl rfl rfl ?_
          refine bnd3_elim h fun x57 x58 x59 q60 h => ?_
          refine s_callN (kb := []) (ns := []) (v := .tup [.ref (63, 100) 0 x57.length, .sc (.int .i64 x58), .sc (.int .i64 x59)]) rfl rfl cl25 (wi_GetRecords p0 x9 x55 x57 x58 x59 q60) rfl (.cons (.free rfl) (.cons (.free rfl) (.cons (.free rfl) .nil))) trivial memNil .nil memNil rfl ⟨(allSc_map recV_sc), trivial⟩ memNil rfl (by simp only [V.mat, V.mat1, V.mat0, matL, matT, List.length_map] <;> rfl) rfl rfl rfl rfl ?_
          refine m1 ?_
          refine s_extract rfl rfl rfl rfl rfl rfl ?_
          refine s_extract rfl rfl rfl rfl rfl rfl ?_
          refine s_extract rfl rfl rfl rfl rfl rfl ?_
          refine s_nilCheck rfl (by conv => lhs; whnf) (.inl ⟨_, _, _, rfl⟩) rfl rfl rfl ?_
          refine s_store (rows' := [[.sc (.int .i64 x1.id), .sc (.bool x1.reply), .sc (.bool x1.auth), .sc (.bool x1.cut), .sc (.bool x1.want), .sc (.bool x1.can), .sc (.int .i64 x1.code), .sc (.string x8.name), .sc (.int .i64 x8.ty), .ref (17, 109) 0 x1.an.length, .ref (17, 110) 0 x1.au.length, .ref (63, 100) 0 x57.length]]) rfl rfl rfl rfl ty31 rfl rfl rfl rfl rfl rfl ?_
          refine m2 ?_
          refine m2 ?_
          refine rt_nil ?_
          refine tri_region ?_
          refine s_addI (c := 3) rfl rfl rfl rfl (by decide) rfl rfl rfl ?_
          refine m1 ?_
          refine rt_nil ?_
          show Tri _ _ _ _
          refine Tri.ent (st' := mkT 79 [(0, .lst 1 (List.map byteV p0)), (2, .ptr (2, 0) 0 0), (4, .ptr (4, 0) 0 0), (10, .sc (.int .i64 x58)), (11, .sc (.int .i64 x59)), (12, .ref (42, 0) 0 ([x2, x3, x4].length)), (46, .ref (46, 0) 0 3), (47, .sc (.int .i64 (3 : Int))), (48, .sc (.int .i64 3))] [((2, 0), some ⟨33, 12, [[.sc (.int .i64 0), .sc (.bool false), .sc (.bool false), .sc (.bool false), .sc (.bool false), .sc (.bool false), .sc (.int .i64 0), .sc (.string (⟨#[]⟩ : ByteArray)), .sc (.int .i64 0), .nils, .nils, .nils]], false, true⟩), ((4, 0), some ⟨33, 12, [[.sc (.int .i64 x1.id), .sc (.bool x1.reply), .sc (.bool x1.auth), .sc (.bool x1.cut), .sc (.bool x1.want), .sc (.bool x1.can), .sc (.int .i64 x1.code), .sc (.string x8.name), .sc (.int .i64 x8.ty), .ref (17, 109) 0 x1.an.length, .ref (17, 110) 0 x1.au.length, .ref (3663, 100) 0 x57.length]], false, true⟩), ((17, 109), some ⟨62, 6, List.map recV x1.an, false, true⟩), ((17, 110), some ⟨62, 6, List.map recV x1.au, false, true⟩), ((3663, 100), some ⟨62, 6, List.map recV x57, false, true⟩), ((42, 0), some ⟨3, 1, List.map intV [x2, x3, x4], false, true⟩), ((46, 0), some ⟨50, 1, [[.ptr (4, 0) 0 9], [.ptr (4, 0) 0 10], [.ptr (4, 0) 0 11]], false, true⟩)]) ?_ ?_
          ·skip
           refine entX [((2, 0), ⟨33, 12, [[.sc (.int .i64 0), .sc (.bool false), .sc (.bool false), .sc (.bool false), .sc (.bool false), .sc (.bool false), .sc (.int .i64 0), .sc (.string (⟨#[]⟩ : ByteArray)), .sc (.int .i64 0), .nils, .nils, .nils]], false, true⟩, some (2, 0)), ((4, 0), ⟨33, 12, [[.sc (.int .i64 x1.id), .sc (.bool x1.reply), .sc (.bool x1.auth), .sc (.bool x1.cut), .sc (.bool x1.want), .sc (.bool x1.can), .sc (.int .i64 x1.code), .sc (.string x8.name), .sc (.int .i64 x8.ty), .ref (17, 109) 0 x1.an.length, .ref (17, 110) 0 x1.au.length, .ref (3663, 100) 0 x57.length]], false, true⟩, some (4, 0)), ((17, 109), ⟨62, 6, List.map recV x1.an, false, true⟩, some (17, 109)), ((17, 110), ⟨62, 6, List.map recV x1.au, false, true⟩, some (17, 110)), ((3663, 100), ⟨62, 6, List.map recV x57, false, true⟩, some (63, 100)), ((42, 0), ⟨3, 1, List.map intV [x2, x3, x4], false, true⟩, some (42, 0)), ((46, 0), ⟨50, 1, [[.ptr (4, 0) 0 9], [.ptr (4, 0) 0 10], [.ptr (4, 0) 0 11]], false, true⟩, some (46, 0))] [] ⟨⟨rfl, _, rfl, rfl, rfl, rfl, id, rowsCv_one (.cons (.free rfl) (.cons (.free rfl) (.cons (.free rfl) (.cons (.free rfl) (.cons (.free rfl) (.cons (.free rfl) (.cons (.free rfl) (.cons (.free rfl) (.cons (.free rfl) (.cons (.free rfl) (.cons (.free rfl) (.cons (.free rfl) .nil)))))))))))), rowsZ_one rfl⟩, ⟨rfl, _, rfl, rfl, rfl, rfl, id, rowsCv_one (.cons (.free rfl) (.cons (.free rfl) (.cons (.free rfl) (.cons (.free rfl) (.cons (.free rfl) (.cons (.free rfl) (.cons (.free rfl) (.cons (.free rfl) (.cons (.free rfl) (.cons (.ref rfl) (.cons (.ref rfl) (.cons (.ref rfl) .nil)))))))))))), rowsZ_one rfl⟩, ⟨rfl, _, rfl, rfl, rfl, rfl, id, rowsCv_eq rfl (allFree_map recV_free), rowsZ_map recV_len⟩, ⟨rfl, _, rfl, rfl, rfl, rfl, id, rowsCv_eq rfl (allFree_map recV_free), rowsZ_map recV_len⟩, ⟨rfl, _, rfl, rfl, rfl, rfl, id, rowsCv_eq rfl (allFree_map recV_free), rowsZ_map recV_len⟩, ⟨rfl, _, rfl, rfl, rfl, rfl, id, rowsCv_eq rfl (allFree_map intV_free), rowsZ_map intV_len⟩, ⟨rfl, _, rfl, rfl, rfl, rfl, id, (rowsCv_cons (.cons (.ptr rfl) .nil) (rowsCv_cons (.cons (.ptr rfl) .nil) (rowsCv_cons (.cons (.ptr rfl) .nil) rowsCv_nil))), (rowsZ_cons rfl (rowsZ_cons rfl (rowsZ_cons rfl rowsZ_nil)))⟩, trivial⟩ trivial rfl rfl ?_
           exact ⟨(.free rfl), (.ptr rfl), (.ptr rfl), (.free rfl), (.free rfl), (.ref rfl), (.ref rfl), (.free rfl), (.free rfl), trivial⟩
          refine tri_sr ?_
          refine s_of (st_lss rfl rfl rfl) rfl rfl rfl rfl ?_
          refine rt_nil ?_
          refine tri_seq ?_
          refine tri_cond rfl (fun hc => ?_) (fun hc => ?_)
          ·exact absurd hc (by decide)
          ·skip
           refine tri_exit ?_
           refine Exists.intro ⟨(x1.an, x1.au, x57, x58, x59), h⟩ ?_
           refine entX [((2, 0), ⟨33, 12, [[.sc (.int .i64 0), .sc (.bool false), .sc (.bool false), .sc (.bool false), .sc (.bool false), .sc (.bool false), .sc (.int .i64 0), .sc (.string (⟨#[]⟩ : ByteArray)), .sc (.int .i64 0), .nils, .nils, .nils]], false, true⟩, some (2, 0)), ((4, 0), ⟨33, 12, [[.sc (.int .i64 x1.id), .sc (.bool x1.reply), .sc (.bool x1.auth), .sc (.bool x1.cut), .sc (.bool x1.want), .sc (.bool x1.can), .sc (.int .i64 x1.code), .sc (.string x8.name), .sc (.int .i64 x8.ty), .ref (2004, 10) 0 x1.an.length, .ref (2004, 11) 0 x1.au.length, .ref (2004, 12) 0 x57.length]], false, true⟩, some (4, 0)), ((2004, 10), ⟨62, 6, List.map recV x1.an, false, true⟩, some (17, 109)), ((2004, 11), ⟨62, 6, List.map recV x1.au, false, true⟩, some (17, 110)), ((2004, 12), ⟨62, 6, List.map recV x57, false, true⟩, some (3663, 100))] [] ⟨⟨rfl, _, rfl, rfl, rfl, rfl, id, rowsCv_one (.cons (.free rfl) (.cons (.free rfl) (.cons (.free rfl) (.cons (.free rfl) (.cons (.free rfl) (.cons (.free rfl) (.cons (.free rfl) (.cons (.free rfl) (.cons (.free rfl) (.cons (.free rfl) (.cons (.free rfl) (.cons (.free rfl) .nil)))))))))))), rowsZ_one rfl⟩, ⟨rfl, _, rfl, rfl, rfl, rfl, id, rowsCv_one (.cons (.free rfl) (.cons (.free rfl) (.cons (.free rfl) (.cons (.free rfl) (.cons (.free rfl) (.cons (.free rfl) (.cons (.free rfl) (.cons (.free rfl) (.cons (.free rfl) (.cons (.ref rfl) (.cons (.ref rfl) (.cons (.ref rfl) .nil)))))))))))), rowsZ_one rfl⟩, ⟨rfl, _, rfl, rfl, rfl, rfl, id, rowsCv_eq rfl (allFree_map recV_free), rowsZ_map recV_len⟩, ⟨rfl, _, rfl, rfl, rfl, rfl, id, rowsCv_eq rfl (allFree_map recV_free), rowsZ_map recV_len⟩, ⟨rfl, _, rfl, rfl, rfl, rfl, id, rowsCv_eq rfl (allFree_map recV_free), rowsZ_map recV_len⟩, trivial⟩ trivial rfl rfl ?_
           exact ⟨(.free rfl), (.ptr rfl), (.ptr rfl), (.free rfl), (.free rfl), trivial⟩
         ·replace h := cond_f h c54
          refine tri_skip ?_
          refine tri_region ?_
          refine s_addI (c := 3) rfl rfl rfl rfl (by decide) rfl rfl rfl ?_
          refine m1 ?_
          refine rt_nil ?_
          show Tri _ _ _ _
          refine Tri.ent (st' := mkT 79 [(0, .lst 1 (List.map byteV p0)), (2, .ptr (2, 0) 0 0), (4, .ptr (4, 0) 0 0), (10, .sc (.int .i64 x9)), (11, .sc (.int .i64 x10)), (12, .ref (42, 0) 0 ([x2, x3, x4].length)), (46, .ref (46, 0) 0 3), (47, .sc (.int .i64 (3 : Int))), (48, .sc (.int .i64 3))] [((2, 0), some ⟨33, 12, [[.sc (.int .i64 0), .sc (.bool false), .sc (.bool false), .sc (.bool false), .sc (.bool false), .sc (.bool false), .sc (.int .i64 0), .sc (.string (⟨#[]⟩ : ByteArray)), .sc (.int .i64 0), .nils, .nils, .nils]], false, true⟩), ((4, 0), some ⟨33, 12, [[.sc (.int .i64 x1.id), .sc (.bool x1.reply), .sc (.bool x1.auth), .sc (.bool x1.cut), .sc (.bool x1.want), .sc (.bool x1.can), .sc (.int .i64 x1.code), .sc (.string x8.name), .sc (.int .i64 x8.ty), .ref (17, 109) 0 x1.an.length, .ref (17, 110) 0 x1.au.length, .ref (17, 111) 0 x1.ad.length]], false, true⟩), ((17, 109), some ⟨62, 6, List.map recV x1.an, false, true⟩), ((17, 110), some ⟨62, 6, List.map recV x1.au, false, true⟩), ((17, 111), some ⟨62, 6, List.map recV x1.ad, false, true⟩), ((42, 0), some ⟨3, 1, List.map intV [x2, x3, x4], false, true⟩), ((46, 0), some ⟨50, 1, [[.ptr (4, 0) 0 9], [.ptr (4, 0) 0 10], [.ptr (4, 0) 0 11]], false, true⟩)]) ?_ ?_
          ·skip
           refine entX [((2, 0), ⟨33, 12, [[.sc (.int .i64 0), .sc (.bool false), .sc (.bool false), .sc (.bool false), .sc (.bool false), .sc (.bool false), .sc (.int .i64 0), .sc (.string (⟨#[]⟩ : ByteArray)), .sc (.int .i64 0), .nils, .nils, .nils]], false, true⟩, some (2, 0)), ((4, 0), ⟨33, 12, [[.sc (.int .i64 x1.id), .sc (.bool x1.reply), .sc (.bool x1.auth), .sc (.bool x1.cut), .sc (.bool x1.want), .sc (.bool x1.can), .sc (.int .i64 x1.code), .sc (.string x8.name), .sc (.int .i64 x8.ty), .ref (17, 109) 0 x1.an.length, .ref (17, 110) 0 x1.au.length, .ref (17, 111) 0 x1.ad.length]], false, true⟩, some (4, 0)), ((17, 109), ⟨62, 6, List.map recV x1.an, false, true⟩, some (17, 109)), ((17, 110), ⟨62, 6, List.map recV x1.au, false, true⟩, some (17, 110)), ((17, 111), ⟨62, 6, List.map recV x1.ad, false, true⟩, some (17, 111)), ((42, 0), ⟨3, 1, List.map intV [x2, x3, x4], false, true⟩, some (42, 0)), ((46, 0), ⟨50, 1, [[.ptr (4, 0) 0 9], [.ptr (4, 0) 0 10], [.ptr (4, 0) 0 11]], false, true⟩, some (46, 0))] [] ⟨⟨rfl, _, rfl, rfl, rfl, rfl, id, rowsCv_one (.cons (.free rfl) (.cons (.free rfl) (.cons (.free rfl) (.cons (.free rfl) (.cons (.free rfl) (.cons (.free rfl) (.cons (.free rfl) (.cons (.free rfl) (.cons (.free rfl) (.cons (.free rfl) (.cons (.free rfl) (.cons (.free rfl) .nil)))))))))))), rowsZ_one rfl⟩, ⟨rfl, _, rfl, rfl, rfl, rfl, id, rowsCv_one (.cons (.free rfl) (.cons (.free rfl) (.cons (.free rfl) (.cons (.free rfl) (.cons (.free rfl) (.cons (.free rfl) (.cons (.free rfl) (.cons (.free rfl) (.cons (.free rfl) (.cons (.ref rfl) (.cons (.ref rfl) (.cons (.ref rfl) .nil)))))))))))), rowsZ_one rfl⟩, ⟨rfl, _, rfl, rfl, rfl, rfl, id, rowsCv_eq rfl (allFree_map recV_free), rowsZ_map recV_len⟩, ⟨rfl, _, rfl, rfl, rfl, rfl, id, rowsCv_eq rfl (allFree_map recV_free), rowsZ_map recV_len⟩, ⟨rfl, _, rfl, rfl, rfl, rfl, id, rowsCv_eq rfl (allFree_map recV_free), rowsZ_map recV_len⟩, ⟨rfl, _, rfl, rfl, rfl, rfl, id, rowsCv_eq rfl (allFree_map intV_free), rowsZ_map intV_len⟩, ⟨rfl, _, rfl, rfl, rfl, rfl, id, (rowsCv_cons (.cons (.ptr rfl) .nil) (rowsCv_cons (.cons (.ptr rfl) .nil) (rowsCv_cons (.cons (.ptr rfl) .nil) rowsCv_nil))), (rowsZ_cons rfl (rowsZ_cons rfl (rowsZ_cons rfl rowsZ_nil)))⟩, trivial⟩ trivial rfl rfl ?_
           exact ⟨(.free rfl), (.ptr rfl), (.ptr rfl), (.free rfl), (.free rfl), (.ref rfl), (.ref rfl), (.free rfl), (.free rfl), trivial⟩
          refine tri_sr ?_
          refine s_of (st_lss rfl rfl rfl) rfl rfl rfl rfl ?_
          refine rt_nil ?_
          refine tri_seq ?_
          refine tri_cond rfl (fun hc => ?_) (fun hc => ?_)
          ·exact absurd hc (by decide)
          ·skip
           refine tri_exit ?_
           refine Exists.intro ⟨(x1.an, x1.au, x1.ad, x9, x10), h⟩ ?_
           refine entX [((2, 0), ⟨33, 12, [[.sc (.int .i64 0), .sc (.bool false), .sc (.bool false), .sc (.bool false), .sc (.bool false), .sc (.bool false), .sc (.int .i64 0), .sc (.string (⟨#[]⟩ : ByteArray)), .sc (.int .i64 0), .nils, .nils, .nils]], false, true⟩, some (2, 0)), ((4, 0), ⟨33, 12, [[.sc (.int .i64 x1.id), .sc (.bool x1.reply), .sc (.bool x1.auth), .sc (.bool x1.cut), .sc (.bool x1.want), .sc (.bool x1.can), .sc (.int .i64 x1.code), .sc (.string x8.name), .sc (.int .i64 x8.ty), .ref (2004, 10) 0 x1.an.length, .ref (2004, 11) 0 x1.au.length, .ref (2004, 12) 0 x1.ad.length]], false, true⟩, some (4, 0)), ((2004, 10), ⟨62, 6, List.map recV x1.an, false, true⟩, some (17, 109)), ((2004, 11), ⟨62, 6, List.map recV x1.au, false, true⟩, some (17, 110)), ((2004, 12), ⟨62, 6, List.map recV x1.ad, false, true⟩, some (17, 111))] [] ⟨⟨rfl, _, rfl, rfl, rfl, rfl, id, rowsCv_one (.cons (.free rfl) (.cons (.free rfl) (.cons (.free rfl) (.cons (.free rfl) (.cons (.free rfl) (.cons (.free rfl) (.cons (.free rfl) (.cons (.free rfl) (.cons (.free rfl) (.cons (.free rfl) (.cons (.free rfl) (.cons (.free rfl) .nil)))))))))))), rowsZ_one rfl⟩, ⟨rfl, _, rfl, rfl, rfl, rfl, id, rowsCv_one (.cons (.free rfl) (.cons (.free rfl) (.cons (.free rfl) (.cons (.free rfl) (.cons (.free rfl) (.cons (.free rfl) (.cons (.free rfl) (.cons (.free rfl) (.cons (.free rfl) (.cons (.ref rfl) (.cons (.ref rfl) (.cons (.ref rfl) .nil)))))))))))), rowsZ_one rfl⟩, ⟨rfl, _, rfl, rfl, rfl, rfl, id, rowsCv_eq rfl (allFree_map recV_free), rowsZ_map recV_len⟩, ⟨rfl, _, rfl, rfl, rfl, rfl, id, rowsCv_eq rfl (allFree_map recV_free), rowsZ_map recV_len⟩, ⟨rfl, _, rfl, rfl, rfl, rfl, id, rowsCv_eq rfl (allFree_map recV_free), rowsZ_map recV_len⟩, trivial⟩ trivial rfl rfl ?_
           exact ⟨(.free rfl), (.ptr rfl), (.ptr rfl), (.free rfl), (.free rfl), trivial⟩
        ·exact absurd hc (by decide)
      ·exact absurd hc (by decide)
    ·exact absurd hc (by decide)
   ·rintro ⟨⟨j1_0, j1_1, j1_2, j1_3, j1_4⟩, h⟩
    replace h : i_GetMsg_j1 p0 x1 x8 j1_0 j1_1 j1_2 j1_3 j1_4 = some (r0, r1) := h
    unfold i_GetMsg_j1 at h
    show Tri _ _ _ (inv_i_GetMsg_1 p0 x1 x8 j1_0 j1_1 j1_2 j1_3 j1_4)
    refine tri_seq ?_
    refine tri_cutI (ι := { p : Bool // i_GetMsg_j2 x1 x8 j1_0 j1_1 j1_2 p = some (r0, r1) }) (fun p => inv_i_GetMsg_2 x1 x8 j1_0 j1_1 j1_2 p.1) ?_ ?_
    ·skip
     refine tri_region ?_
     refine m1 ?_
     refine s_of (st_neI rfl rfl rfl) rfl rfl rfl rfl ?_
     refine m1 ?_
     refine s_split (t := 71) rfl (fun b12 => ?_) (fun b12 => ?_)
     ·replace h := cond_t h b12
      refine s_skip rfl rfl rfl ?_
      refine s_skip rfl rfl rfl ?_
      refine s_skip rfl rfl rfl ?_
      refine s_skip rfl rfl rfl ?_
      refine s_pickT rfl rfl (v := .sc (.bool true)) rfl rfl rfl rfl ?_
      refine rt_nil ?_
      refine Exists.intro ⟨true, h⟩ ?_
      refine entX [((2, 0), ⟨33, 12, [[.sc (.int .i64 0), .sc (.bool false), .sc (.bool false), .sc (.bool false), .sc (.bool false), .sc (.bool false), .sc (.int .i64 0), .sc (.string (⟨#[]⟩ : ByteArray)), .sc (.int .i64 0), .nils, .nils, .nils]], false, true⟩, some (2, 0)), ((4, 0), ⟨33, 12, [[.sc (.int .i64 x1.id), .sc (.bool x1.reply), .sc (.bool x1.auth), .sc (.bool x1.cut), .sc (.bool x1.want), .sc (.bool x1.can), .sc (.int .i64 x1.code), .sc (.string x8.name), .sc (.int .i64 x8.ty), .ref (2004, 10) 0 j1_0.length, .ref (2004, 11) 0 j1_1.length, .ref (2004, 12) 0 j1_2.length]], false, true⟩, some (4, 0)), ((2004, 10), ⟨62, 6, List.map recV j1_0, false, true⟩, some (2004, 10)), ((2004, 11), ⟨62, 6, List.map recV j1_1, false, true⟩, some (2004, 11)), ((2004, 12), ⟨62, 6, List.map recV j1_2, false, true⟩, some (2004, 12))] [] ⟨⟨rfl, _, rfl, rfl, rfl, rfl, id, rowsCv_one (.cons (.free rfl) (.cons (.free rfl) (.cons (.free rfl) (.cons (.free rfl) (.cons (.free rfl) (.cons (.free rfl) (.cons (.free rfl) (.cons (.free rfl) (.cons (.free rfl) (.cons (.free rfl) (.cons (.free rfl) (.cons (.free rfl) .nil)))))))))))), rowsZ_one rfl⟩, ⟨rfl, _, rfl, rfl, rfl, rfl, id, rowsCv_one (.cons (.free rfl) (.cons (.free rfl) (.cons (.free rfl) (.cons (.free rfl) (.cons (.free rfl) (.cons (.free rfl) (.cons (.free rfl) (.cons (.free rfl) (.cons (.free rfl) (.cons (.ref rfl) (.cons (.ref rfl) (.cons (.ref rfl) .nil)))))))))))), rowsZ_one rfl⟩, ⟨rfl, _, rfl, rfl, rfl, rfl, id, rowsCv_eq rfl (allFree_map recV_free), rowsZ_map recV_len⟩, ⟨rfl, _, rfl, rfl, rfl, rfl, id, rowsCv_eq rfl (allFree_map recV_free), rowsZ_map recV_len⟩, ⟨rfl, _, rfl, rfl, rfl, rfl, id, rowsCv_eq rfl (allFree_map recV_free), rowsZ_map recV_len⟩, trivial⟩ trivial rfl rfl ?_
      exact ⟨(.ptr rfl), (.ptr rfl), (.free rfl), trivial⟩
     ·replace h := cond_f h b12
      refine m1 ?_
      refine m1 ?_
      refine s_lenL rfl sl22 rfl rfl rfl rfl ?_
      refine s_of (st_neI rfl rfl rfl) rfl rfl rfl rfl ?_
      refine s_pickF rfl rfl (by conv => lhs; whnf) rfl rfl rfl ?_
      refine rt_nil ?_
      refine Exists.intro ⟨!decide (j1_3 = (p0.length : Int)), h⟩ ?_
      refine entX [((2, 0), ⟨33, 12, [[.sc (.int .i64 0), .sc (.bool false), .sc (.bool false), .sc (.bool false), .sc (.bool false), .sc (.bool false), .sc (.int .i64 0), .sc (.string (⟨#[]⟩ : ByteArray)), .sc (.int .i64 0), .nils, .nils, .nils]], false, true⟩, some (2, 0)), ((4, 0), ⟨33, 12, [[.sc (.int .i64 x1.id), .sc (.bool x1.reply), .sc (.bool x1.auth), .sc (.bool x1.cut), .sc (.bool x1.want), .sc (.bool x1.can), .sc (.int .i64 x1.code), .sc (.string x8.name), .sc (.int .i64 x8.ty), .ref (2004, 10) 0 j1_0.length, .ref (2004, 11) 0 j1_1.length, .ref (2004, 12) 0 j1_2.length]], false, true⟩, some (4, 0)), ((2004, 10), ⟨62, 6, List.map recV j1_0, false, true⟩, some (2004, 10)), ((2004, 11), ⟨62, 6, List.map recV j1_1, false, true⟩, some (2004, 11)), ((2004, 12), ⟨62, 6, List.map recV j1_2, false, true⟩, some (2004, 12))] [] ⟨⟨rfl, _, rfl, rfl, rfl, rfl, id, rowsCv_one (.cons (.free rfl) (.cons (.free rfl) (.cons (.free rfl) (.cons (.free rfl) (.cons (.free rfl) (.cons (.free rfl) (.cons (.free rfl) (.cons (.free rfl) (.cons (.free rfl) (.cons (.free rfl) (.cons (.free rfl) (.cons (.free rfl) .nil)))))))))))), rowsZ_one rfl⟩, ⟨rfl, _, rfl, rfl, rfl, rfl, id, rowsCv_one (.cons (.free rfl) (.cons (.free rfl) (.cons (.free rfl) (.cons (.free rfl) (.cons (.free rfl) (.cons (.free rfl) (.cons (.free rfl) (.cons (.free rfl) (.cons (.free rfl) (.cons (.ref rfl) (.cons (.ref rfl) (.cons (.ref rfl) .nil)))))))))))), rowsZ_one rfl⟩, ⟨rfl, _, rfl, rfl, rfl, rfl, id, rowsCv_eq rfl (allFree_map recV_free), rowsZ_map recV_len⟩, ⟨rfl, _, rfl, rfl, rfl, rfl, id, rowsCv_eq rfl (allFree_map recV_free), rowsZ_map recV_len⟩, ⟨rfl, _, rfl, rfl, rfl, rfl, id, rowsCv_eq rfl (allFree_map recV_free), rowsZ_map recV_len⟩, trivial⟩ trivial rfl rfl ?_
      exact ⟨(.ptr rfl), (.ptr rfl), (.free rfl), trivial⟩
    ·rintro ⟨j2_0, h⟩
     replace h : i_GetMsg_j2 x1 x8 j1_0 j1_1 j1_2 j2_0 = some (r0, r1) := h
     unfold i_GetMsg_j2 at h
     show Tri _ _ _ (inv_i_GetMsg_2 x1 x8 j1_0 j1_1 j1_2 j2_0)
     refine tri_cond rfl (fun c12 => ?_) (fun c12 => ?_)
     ·replace h := cond_t h c12
      refine tri_sr ?_
      refine s_build (cells' := [.sc (.int .i64 0), .sc (.bool false), .sc (.bool false), .sc (.bool false), .sc (.bool false), .sc (.bool false), .sc (.int .i64 0), .sc (.string (⟨#[]⟩ : ByteArray)), .sc (.int .i64 0), .nils, .nils, .nils]) rfl stc33 rfl rfl rfl rfl rfl rfl rfl ?_
      refine s_storeB rfl rfl rfl ty33 rfl rfl rfl rfl rfl ?_
      refine s_mv (.inr rfl) (v := .sc (.bool false)) rfl rfl rfl rfl ?_
      refine rt_nil ?_
      refine tri_ret ?_
      have e0 := (some2 h).1; have e1 := (some2 h).2; subst e0; subst e1
      exact endY (v' := .tup [.agg [.sc (.int .i64 0), .sc (.bool false), .sc (.bool false), .sc (.bool false), .sc (.bool false), .sc (.bool false), .sc (.int .i64 0), .sc (.string (⟨#[]⟩ : ByteArray)), .sc (.int .i64 0), .ref (2000, 109) 0 (([] : List Rec).length), .ref (2000, 110) 0 (([] : List Rec).length), .ref (2000, 111) 0 (([] : List Rec).length)], .sc (.bool false)]) [((2000, 109), ⟨62, 6, List.map recV ([] : List Rec), false, true⟩, none), ((2000, 110), ⟨62, 6, List.map recV ([] : List Rec), false, true⟩, none), ((2000, 111), ⟨62, 6, List.map recV ([] : List Rec), false, true⟩, none)] [] (rvC (resCell rfl rfl ty33) (rvC (resTmp rfl) rvN)) ⟨rfl, rfl, rfl, trivial⟩ trivial rfl rfl (by kernel_rfl) (by simp only [V.mat, V.mat1, V.mat0, matL, matT, List.length_map] <;> rfl) (CvL.tup (.cons (CvL.agg (.cons (.free rfl) (.cons (.free rfl) (.cons (.free rfl) (.cons (.free rfl) (.cons (.free rfl) (.cons (.free rfl) (.cons (.free rfl) (.cons (.free rfl) (.cons (.free rfl) (.cons (.nilRef rfl) (.cons (.nilRef rfl) (.cons (.nilRef rfl) .nil))))))))))))) (.cons (.free rfl) .nil)))
     ·replace h := cond_f h c12
      refine tri_skip ?_
      refine tri_sr ?_
      refine s_loadR rfl rfl rfl rfl ty33 rfl rfl rfl ?_
      refine s_storeB rfl rfl rfl ty33 rfl rfl rfl rfl rfl ?_
      refine s_mv (.inr rfl) (v := .sc (.bool true)) rfl rfl rfl rfl ?_
      refine rt_nil ?_
      refine tri_ret ?_
      have e0 := (some2 h).1; have e1 := (some2 h).2; subst e0; subst e1
      exact endY (v' := .tup [.agg [.sc (.int .i64 x1.id), .sc (.bool x1.reply), .sc (.bool x1.auth), .sc (.bool x1.cut), .sc (.bool x1.want), .sc (.bool x1.can), .sc (.int .i64 x1.code), .sc (.string x8.name), .sc (.int .i64 x8.ty), .ref (2000, 109) 0 j1_0.length, .ref (2000, 110) 0 j1_1.length, .ref (2000, 111) 0 j1_2.length], .sc (.bool true)]) [((2000, 109), ⟨62, 6, List.map recV j1_0, false, true⟩, some (2004, 10)), ((2000, 110), ⟨62, 6, List.map recV j1_1, false, true⟩, some (2004, 11)), ((2000, 111), ⟨62, 6, List.map recV j1_2, false, true⟩, some (2004, 12))] [] (rvC (resCell rfl rfl ty33) (rvC (resTmp rfl) rvN)) ⟨⟨rfl, _, rfl, rfl, rfl, rfl, id, rowsCv_eq rfl (allFree_map recV_free), rowsZ_map recV_len⟩, ⟨rfl, _, rfl, rfl, rfl, rfl, id, rowsCv_eq rfl (allFree_map recV_free), rowsZ_map recV_len⟩, ⟨rfl, _, rfl, rfl, rfl, rfl, id, rowsCv_eq rfl (allFree_map recV_free), rowsZ_map recV_len⟩, trivial⟩ trivial rfl rfl (by kernel_rfl) (by simp only [V.mat, V.mat1, V.mat0, matL, matT, List.length_map] <;> rfl) (CvL.tup (.cons (CvL.agg (.cons (.free rfl) (.cons (.free rfl) (.cons (.free rfl) (.cons (.free rfl) (.cons (.free rfl) (.cons (.free rfl) (.cons (.free rfl) (.cons (.free rfl) (.cons (.free rfl) (.cons (.ref rfl) (.cons (.ref rfl) (.cons (.ref rfl) .nil))))))))))))) (.cons (.free rfl) .nil)))

/- laws.eqQuest -/

set_option maxRecDepth 4000 in
set_option maxHeartbeats 800000 in
theorem ww_eqQuest (p0 : Quest) (p1 : Quest) (r0 : Bool) (h : w_eqQuest p0 p1 = some r0) : Runs Tryd.prog 8 [.agg (questV p0), .agg (questV p1)] [] (.sc (.bool r0)) [] := by
 unfold w_eqQuest at h
 refine runsR [.tmp 4] Tryd.func8 rfl rfl rfl rfl ?_
 rw [Tryd.ntmps8]
 refine tri_sr ?_
 refine s_box rfl rfl rfl rfl rfl rfl rfl ?_
 refine s_box rfl rfl rfl rfl rfl rfl rfl ?_
 refine s_mv (.inr rfl) (v := .sc (.bool false)) rfl rfl rfl rfl ?_
 refine rt_nil ?_
 refine tri_seq ?_
 refine tri_sr ?_
 refine s_fieldAddr rfl rfl fd24_0 rfl rfl rfl rfl ?_
 refine s_load rfl rfl rfl rfl ty9 rfl (.inr rfl) (by conv => lhs; whnf) rfl rfl rfl ?_
 refine s_fieldAddr rfl rfl fd24_0 rfl rfl rfl rfl ?_
 refine s_load rfl rfl rfl rfl ty9 rfl (.inr rfl) (by conv => lhs; whnf) rfl rfl rfl ?_
 refine s_of (st_neS rfl rfl rfl) rfl rfl rfl rfl ?_
 refine rt_nil ?_
 refine tri_cond rfl (fun c1 => ?_) (fun c1 => ?_)
 ·replace h := cond_t h c1
  refine tri_sr ?_
  refine s_mv (.inr rfl) (v := .sc (.bool false)) rfl rfl rfl rfl ?_
  refine rt_nil ?_
  refine tri_ret ?_
  have e0 := (some1 h); subst e0
  exact endY [] [] (rvC (resTmp rfl) rvN) trivial trivial rfl rfl rfl rfl (.free rfl)
 ·replace h := cond_f h c1
  refine tri_skip ?_
  refine tri_seq ?_
  refine tri_sr ?_
  refine s_fieldAddr rfl rfl fd24_1 rfl rfl rfl rfl ?_
  refine s_load rfl rfl rfl rfl ty3 rfl (.inr rfl) (by conv => lhs; whnf) rfl rfl rfl ?_
  refine s_fieldAddr rfl rfl fd24_1 rfl rfl rfl rfl ?_
  refine s_load rfl rfl rfl rfl ty3 rfl (.inr rfl) (by conv => lhs; whnf) rfl rfl rfl ?_
  refine s_of (st_neI rfl rfl rfl) rfl rfl rfl rfl ?_
  refine rt_nil ?_
  refine tri_cond rfl (fun c2 => ?_) (fun c2 => ?_)
  ·replace h := cond_t h c2
   refine tri_sr ?_
   refine s_mv (.inr rfl) (v := .sc (.bool false)) rfl rfl rfl rfl ?_
   refine rt_nil ?_
   refine tri_ret ?_
   have e0 := (some1 h); subst e0
   exact endY [] [] (rvC (resTmp rfl) rvN) trivial trivial rfl rfl rfl rfl (.free rfl)
  ·replace h := cond_f h c2
   refine tri_skip ?_
   refine tri_sr ?_
   refine s_mv (.inr rfl) (v := .sc (.bool true)) rfl rfl rfl rfl ?_
   refine rt_nil ?_
   refine tri_ret ?_
   have e0 := (some1 h); subst e0
   exact endY [] [] (rvC (resTmp rfl) rvN) trivial trivial rfl rfl rfl rfl (.free rfl)

/- laws.eqRecord -/

set_option maxRecDepth 4000 in
set_option maxHeartbeats 800000 in
theorem ww_eqRecord (p0 : Rec) (p1 : Rec) (r0 : Bool) (h : w_eqRecord p0 p1 = some r0) : Runs Tryd.prog 39 [.agg (recV p0), .agg (recV p1)] [] (.sc (.bool r0)) [] := by
 unfold w_eqRecord at h
 refine runsR [.tmp 4] Tryd.func39 rfl rfl rfl rfl ?_
 rw [Tryd.ntmps39]
 refine tri_sr ?_
 refine s_box rfl rfl rfl rfl rfl rfl rfl ?_
 refine s_box rfl rfl rfl rfl rfl rfl rfl ?_
 refine s_mv (.inr rfl) (v := .sc (.bool false)) rfl rfl rfl rfl ?_
 refine rt_nil ?_
 refine tri_seq ?_
 refine tri_sr ?_
 refine s_fieldAddr rfl rfl fd62_0 rfl rfl rfl rfl ?_
 refine s_load rfl rfl rfl rfl ty9 rfl (.inr rfl) (by conv => lhs; whnf) rfl rfl rfl ?_
 refine s_fieldAddr rfl rfl fd62_0 rfl rfl rfl rfl ?_
 refine s_load rfl rfl rfl rfl ty9 rfl (.inr rfl) (by conv => lhs; whnf) rfl rfl rfl ?_
 refine s_of (st_neS rfl rfl rfl) rfl rfl rfl rfl ?_
 refine rt_nil ?_
 refine tri_cond rfl (fun c1 => ?_) (fun c1 => ?_)
 ·replace h := cond_t h c1
  refine tri_sr ?_
  refine s_mv (.inr rfl) (v := .sc (.bool false)) rfl rfl rfl rfl ?_
  refine rt_nil ?_
  refine tri_ret ?_
  have e0 := (some1 h); subst e0
  exact endY [] [] (rvC (resTmp rfl) rvN) trivial trivial rfl rfl rfl rfl (.free rfl)
 ·replace h := cond_f h c1
  refine tri_skip ?_
  refine tri_seq ?_
  refine tri_sr ?_
  refine s_fieldAddr rfl rfl fd62_1 rfl rfl rfl rfl ?_
  refine s_load rfl rfl rfl rfl ty3 rfl (.inr rfl) (by conv => lhs; whnf) rfl rfl rfl ?_
  refine s_fieldAddr rfl rfl fd62_1 rfl rfl rfl rfl ?_
  refine s_load rfl rfl rfl rfl ty3 rfl (.inr rfl) (by conv => lhs; whnf) rfl rfl rfl ?_
  refine s_of (st_neI rfl rfl rfl) rfl rfl rfl rfl ?_
  refine rt_nil ?_
  refine tri_cond rfl (fun c2 => ?_) (fun c2 => ?_)
  ·replace h := cond_t h c2
   refine tri_sr ?_
   refine s_mv (.inr rfl) (v := .sc (.bool false)) rfl rfl rfl rfl ?_
   refine rt_nil ?_
   refine tri_ret ?_
   have e0 := (some1 h); subst e0
   exact endY [] [] (rvC (resTmp rfl) rvN) trivial trivial rfl rfl rfl rfl (.free rfl)
  ·replace h := cond_f h c2
   refine tri_skip ?_
   refine tri_seq ?_
   refine tri_sr ?_
   refine s_fieldAddr rfl rfl fd62_2 rfl rfl rfl rfl ?_
   refine s_load rfl rfl rfl rfl ty3 rfl (.inr rfl) (by conv => lhs; whnf) rfl rfl rfl ?_
   refine s_fieldAddr rfl rfl fd62_2 rfl rfl rfl rfl ?_
   refine s_load rfl rfl rfl rfl ty3 rfl (.inr rfl) (by conv => lhs; whnf) rfl rfl rfl ?_
   refine s_of (st_neI rfl rfl rfl) rfl rfl rfl rfl ?_
   refine rt_nil ?_
   refine tri_cond rfl (fun c3 => ?_) (fun c3 => ?_)
   ·replace h := cond_t h c3
    refine tri_sr ?_
    refine s_mv (.inr rfl) (v := .sc (.bool false)) rfl rfl rfl rfl ?_
    refine rt_nil ?_
    refine tri_ret ?_
    have e0 := (some1 h); subst e0
    exact endY [] [] (rvC (resTmp rfl) rvN) trivial trivial rfl rfl rfl rfl (.free rfl)
   ·replace h := cond_f h c3
    refine tri_skip ?_
    refine tri_seq ?_
    refine tri_sr ?_
    refine s_fieldAddr rfl rfl fd62_3 rfl rfl rfl rfl ?_
    refine s_load rfl rfl rfl rfl ty3 rfl (.inr rfl) (by conv => lhs; whnf) rfl rfl rfl ?_
    refine s_fieldAddr rfl rfl fd62_3 rfl rfl rfl rfl ?_
    refine s_load rfl rfl rfl rfl ty3 rfl (.inr rfl) (by conv => lhs; whnf) rfl rfl rfl ?_
    refine s_of (st_neI rfl rfl rfl) rfl rfl rfl rfl ?_
    refine rt_nil ?_
    refine tri_cond rfl (fun c4 => ?_) (fun c4 => ?_)
    ·replace h := cond_t h c4
     refine tri_sr ?_
     refine s_mv (.inr rfl) (v := .sc (.bool false)) rfl rfl rfl rfl ?_
     refine rt_nil ?_
     refine tri_ret ?_
     have e0 := (some1 h); subst e0
     exact endY [] [] (rvC (resTmp rfl) rvN) trivial trivial rfl rfl rfl rfl (.free rfl)
    ·replace h := cond_f h c4
     refine tri_skip ?_
     refine tri_seq ?_
     refine tri_sr ?_
     refine s_fieldAddr rfl rfl fd62_4 rfl rfl rfl rfl ?_
     refine s_load rfl rfl rfl rfl ty9 rfl (.inr rfl) (by conv => lhs; whnf) rfl rfl rfl ?_
     refine s_fieldAddr rfl rfl fd62_4 rfl rfl rfl rfl ?_
     refine s_load rfl rfl rfl rfl ty9 rfl (.inr rfl) (by conv => lhs; whnf) rfl rfl rfl ?_
     refine s_of (st_neS rfl rfl rfl) rfl rfl rfl rfl ?_
     refine rt_nil ?_
     refine tri_cond rfl (fun c5 => ?_) (fun c5 => ?_)
     ·replace h := cond_t h c5
      refine tri_sr ?_
      refine s_mv (.inr rfl) (v := .sc (.bool false)) rfl rfl rfl rfl ?_
      refine rt_nil ?_
      refine tri_ret ?_
      have e0 := (some1 h); subst e0
      exact endY [] [] (rvC (resTmp rfl) rvN) trivial trivial rfl rfl rfl rfl (.free rfl)
     ·replace h := cond_f h c5
      refine tri_skip ?_
      refine tri_seq ?_
      refine tri_sr ?_
      refine s_fieldAddr rfl rfl fd62_5 rfl rfl rfl rfl ?_
      refine s_load rfl rfl rfl rfl ty9 rfl (.inr rfl) (by conv => lhs; whnf) rfl rfl rfl ?_
      refine s_fieldAddr rfl rfl fd62_5 rfl rfl rfl rfl ?_
      refine s_load rfl rfl rfl rfl ty9 rfl (.inr rfl) (by conv => lhs; whnf) rfl rfl rfl ?_
      refine s_of (st_neS rfl rfl rfl) rfl rfl rfl rfl ?_
      refine rt_nil ?_
      refine tri_cond rfl (fun c6 => ?_) (fun c6 => ?_)
      ·replace h := cond_t h c6
       refine tri_sr ?_
       refine s_mv (.inr rfl) (v := .sc (.bool false)) rfl rfl rfl rfl ?_
       refine rt_nil ?_
       refine tri_ret ?_
       have e0 := (some1 h); subst e0
       exact endY [] [] (rvC (resTmp rfl) rvN) trivial trivial rfl rfl rfl rfl (.free rfl)
      ·replace h := cond_f h c6
       refine tri_skip ?_
       refine tri_sr ?_
       refine s_mv (.inr rfl) (v := .sc (.bool true)) rfl rfl rfl rfl ?_
       refine rt_nil ?_
       refine tri_ret ?_
       have e0 := (some1 h); subst e0
       exact endY [] [] (rvC (resTmp rfl) rvN) trivial trivial rfl rfl rfl rfl (.free rfl)

/- laws.eqRecordS -/
def inv_w_eqRecordS_0 (p0 : List Rec) (p1 : List Rec) (v0_0 : Nat) : St := mkT 27 [(0, .lst 6 (List.map recV p0)), (1, .lst 6 (List.map recV p1)), (5, .sc (.int .i64 (v0_0 : Int)))] []
set_option maxRecDepth 4000 in
set_option maxHeartbeats 800000 in
theorem ww_eqRecordS (p0 : List Rec) (p1 : List Rec) (r0 : Bool) (h : w_eqRecordS p0 p1 = some r0) : Runs Tryd.prog 26 [.lst 6 (List.map recV p0), .lst 6 (List.map recV p1)] [] (.sc (.bool r0)) [] := by
 unfold w_eqRecordS at h
 refine runsR [.tmp 4] Tryd.func26 rfl rfl rfl rfl ?_
 rw [Tryd.ntmps26]
 refine tri_sr ?_
 refine s_mv (.inr rfl) (v := .sc (.bool false)) rfl rfl rfl rfl ?_
 refine rt_nil ?_
 refine tri_seq ?_
 refine tri_sr ?_
 refine m1 ?_
 refine s_lenL rfl sl31 rfl rfl rfl rfl ?_
 refine m1 ?_
 refine s_lenL rfl sl31 rfl rfl rfl rfl ?_
 refine s_of (st_neI rfl rfl rfl) rfl rfl rfl rfl ?_
 refine rt_nil ?_
 refine tri_cond rfl (fun c1 => ?_) (fun c1 => ?_)
 ·replace h := cond_t h c1
  refine tri_sr ?_
  refine s_mv (.inr rfl) (v := .sc (.bool false)) rfl rfl rfl rfl ?_
  refine rt_nil ?_
  refine tri_ret ?_
  have e0 := (some1 h); subst e0
  exact endY [] [] (rvC (resTmp rfl) rvN) trivial trivial rfl rfl rfl rfl (.free rfl)
 ·replace h := cond_f h c1
  refine tri_skip ?_
  refine tri_seq ?_
  refine tri_sr ?_
  refine s_mv (.inr rfl) (v := .sc (.int .i64 0)) rfl rfl rfl rfl ?_
  refine rt_nil ?_
  refine tri_block ?_
  refine tri_lstM 0 rfl (fun hl0 => ?_)
  refine tri_loop (ι := { p : (List Rec) × Nat // p0.drop p.2 = p.1 ∧ w_eqRecordS_l0 p1 p.1 p.2 = some r0 }) (fun p => inv_w_eqRecordS_0 p0 p1 p.1.2) (fun p => p.1.1.length) ⟨(p0, 0), rfl, h⟩ ?_ ?_
  ·skip
   refine entX [] [] trivial trivial rfl rfl ?_
   exact ⟨(.free rfl), (.free rfl), (.free rfl), trivial⟩
  ·rintro ⟨⟨lrs0, v0_0⟩, hd0, h⟩
   replace hd0 : p0.drop v0_0 = lrs0 := hd0
   replace h : w_eqRecordS_l0 p1 lrs0 v0_0 = some r0 := h
   show Tri _ _ _ (inv_w_eqRecordS_0 p0 p1 v0_0)
   refine tri_seq ?_
   refine tri_sr ?_
   refine m1 ?_
   refine m1 ?_
   refine s_lenL rfl sl31 rfl rfl rfl rfl ?_
   refine s_of (st_lss rfl rfl rfl) rfl rfl rfl rfl ?_
   refine rt_nil ?_
   refine tri_cond rfl (fun c2 => ?_) (fun c2 => ?_)
   ·refine drop_elim hd0 c2 fun e0 rs0 he hx0 hn0 => ?_
    subst he
    rw [w_eqRecordS_l0] at h
    refine tri_skip ?_
    refine tri_seq ?_
    refine tri_block ?_
    refine tri_seq ?_
    refine tri_draw mixed ?_
    refine m1 ?_
    refine m1 ?_
    refine s_indexF (i := v0_0) rfl rfl rfl sl31 (get_ltM hx0) rfl rfl rfl ?_
    refine s_loadFR rfl rfl (rowG hx0) ty62 rfl rfl rfl ?_
    refine m1 ?_
    refine m1 ?_
    refine bnd1_elim h fun x3 q4 h => ?_
    have q4a := (idx_some q4).1; have q4b := (idx_some q4).2
    refine s_indexFZ rfl rfl rfl sl31 q4a (get_ltM q4b) rfl rfl rfl ?_
    refine s_loadFR rfl rfl (rowG q4b) ty62 rfl rfl rfl ?_
    refine bnd1_elim h fun x5 q6 h => ?_
    refine s_callN (kb := []) (ns := []) (v := .sc (.bool x5)) rfl rfl cl39 (ww_eqRecord e0 x3 x5 q6) rfl (.cons (relAgg rfl) (.cons (relAgg rfl) .nil)) trivial memNil .nil memNil rfl trivial memNil rfl rfl rfl rfl rfl rfl ?_
    refine s_of (st_not rfl rfl) rfl rfl rfl rfl ?_
    refine rt_nil ⟨by kernel_rfl, ?_⟩
    refine tri_cond rfl (fun c7 => ?_) (fun c7 => ?_)
    ·replace h := cond_t h c7
     refine tri_sr ?_
     refine s_mv (.inr rfl) (v := .sc (.bool false)) rfl rfl rfl rfl ?_
     refine rt_nil ?_
     refine tri_ret ?_
     have e0 := (some1 h); subst e0
     exact endY [] [] (rvC (resTmp rfl) rvN) trivial trivial rfl rfl rfl rfl (.free rfl)
    ·replace h := cond_f h c7
     refine tri_skip ?_
     refine tri_region ?_
     refine m1 ?_
     refine s_inc (a := v0_0) (b := 1) rfl rfl rfl rfl (by have := get_lt hx0; have := hl0; omega) rfl rfl rfl ?_
     refine m2 ?_
     refine rt_nil ?_
     refine Exists.intro ⟨(rs0, (v0_0 + 1)), hn0, h⟩ (And.intro (Nat.lt_succ_self _) ?_)
     refine entX [] [] trivial trivial rfl rfl ?_
     exact ⟨(.free rfl), (.free rfl), (.free rfl), trivial⟩
   ·have he := drop_f hd0 c2; subst he
    rw [w_eqRecordS_l0] at h
    refine tri_exit ?_
    refine tri_sr ?_
    refine s_mv (.inr rfl) (v := .sc (.bool true)) rfl rfl rfl rfl ?_
    refine rt_nil ?_
    refine tri_ret ?_
    have e0 := (some1 h); subst e0
    exact endY [] [] (rvC (resTmp rfl) rvN) trivial trivial rfl rfl rfl rfl (.free rfl)

/- laws.eqMsg -/

set_option maxRecDepth 4000 in
set_option maxHeartbeats 800000 in
theorem ww_eqMsg (p0 : MMsg) (p1 : MMsg) (r0 : Bool) (h : w_eqMsg p0 p1 = some r0) : Runs Tryd.prog 12 [.agg (mMsgV p0), .agg (mMsgV p1)] [] (.sc (.bool r0)) [] := by
 unfold w_eqMsg at h
 refine runsR [.tmp 4] Tryd.func12 rfl rfl rfl rfl ?_
 rw [Tryd.ntmps12]
 refine tri_sr ?_
 refine s_box rfl rfl rfl rfl rfl rfl rfl ?_
 refine s_box rfl rfl rfl rfl rfl rfl rfl ?_
 refine s_mv (.inr rfl) (v := .sc (.bool false)) rfl rfl rfl rfl ?_
 refine rt_nil ?_
 refine tri_seq ?_
 refine tri_sr ?_
 refine s_fieldAddr rfl rfl fd33_0 rfl rfl rfl rfl ?_
 refine s_load rfl rfl rfl rfl ty3 rfl (.inr rfl) (by conv => lhs; whnf) rfl rfl rfl ?_
 refine s_fieldAddr rfl rfl fd33_0 rfl rfl rfl rfl ?_
 refine s_load rfl rfl rfl rfl ty3 rfl (.inr rfl) (by conv => lhs; whnf) rfl rfl rfl ?_
 refine s_of (st_neI rfl rfl rfl) rfl rfl rfl rfl ?_
 refine rt_nil ?_
 refine tri_cond rfl (fun c1 => ?_) (fun c1 => ?_)
 ·replace h := cond_t h c1
  refine tri_sr ?_
  refine s_mv (.inr rfl) (v := .sc (.bool false)) rfl rfl rfl rfl ?_
  refine rt_nil ?_
  refine tri_ret ?_
  have e0 := (some1 h); subst e0
  exact endY [] [] (rvC (resTmp rfl) rvN) trivial trivial rfl rfl rfl rfl (.free rfl)
 ·replace h := cond_f h c1
  refine tri_skip ?_
  refine tri_seq ?_
  refine tri_sr ?_
  refine s_fieldAddr rfl rfl fd33_1 rfl rfl rfl rfl ?_
  refine s_load rfl rfl rfl rfl ty4 rfl (.inr rfl) (by conv => lhs; whnf) rfl rfl rfl ?_
  refine s_fieldAddr rfl rfl fd33_1 rfl rfl rfl rfl ?_
  refine s_load rfl rfl rfl rfl ty4 rfl (.inr rfl) (by conv => lhs; whnf) rfl rfl rfl ?_
  refine s_of (st_neB isb4 rfl rfl rfl) rfl rfl rfl rfl ?_
  refine rt_nil ?_
  refine tri_cond rfl (fun c2 => ?_) (fun c2 => ?_)
  ·replace h := cond_t h c2
   refine tri_sr ?_
   refine s_mv (.inr rfl) (v := .sc (.bool false)) rfl rfl rfl rfl ?_
   refine rt_nil ?_
   refine tri_ret ?_
   have e0 := (some1 h); subst e0
   exact endY [] [] (rvC (resTmp rfl) rvN) trivial trivial rfl rfl rfl rfl (.free rfl)
  ·replace h := cond_f h c2
   refine tri_skip ?_
   refine tri_seq ?_
   refine tri_sr ?_
   refine s_fieldAddr rfl rfl fd33_2 rfl rfl rfl rfl ?_
   refine s_load rfl rfl rfl rfl ty4 rfl (.inr rfl) (by conv => lhs; whnf) rfl rfl rfl ?_
   refine s_fieldAddr rfl rfl fd33_2 rfl rfl rfl rfl ?_
   refine s_load rfl rfl rfl rfl ty4 rfl (.inr rfl) (by conv => lhs; whnf) rfl rfl rfl ?_
   refine s_of (st_neB isb4 rfl rfl rfl) rfl rfl rfl rfl ?_
   refine rt_nil ?_
   refine tri_cond rfl (fun c3 => ?_) (fun c3 => ?_)
   ·replace h := cond_t h c3
    refine tri_sr ?_
    refine s_mv (.inr rfl) (v := .sc (.bool false)) rfl rfl rfl rfl ?_
    refine rt_nil ?_
    refine tri_ret ?_
    have e0 := (some1 h); subst e0
    exact endY [] [] (rvC (resTmp rfl) rvN) trivial trivial rfl rfl rfl rfl (.free rfl)
   ·replace h := cond_f h c3
    refine tri_skip ?_
    refine tri_seq ?_
    refine tri_sr ?_
    refine s_fieldAddr rfl rfl fd33_3 rfl rfl rfl rfl ?_
    refine s_load rfl rfl rfl rfl ty4 rfl (.inr rfl) (by conv => lhs; whnf) rfl rfl rfl ?_
    refine s_fieldAddr rfl rfl fd33_3 rfl rfl rfl rfl ?_
    refine s_load rfl rfl rfl rfl ty4 rfl (.inr rfl) (by conv => lhs; whnf) rfl rfl rfl ?_
    refine s_of (st_neB isb4 rfl rfl rfl) rfl rfl rfl rfl ?_
    refine rt_nil ?_
    refine tri_cond rfl (fun c4 => ?_) (fun c4 => ?_)
    ·replace h := cond_t h c4
     refine tri_sr ?_
     refine s_mv (.inr rfl) (v := .sc (.bool false)) rfl rfl rfl rfl ?_
     refine rt_nil ?_
     refine tri_ret ?_
     have e0 := (some1 h); subst e0
     exact endY [] [] (rvC (resTmp rfl) rvN) trivial trivial rfl rfl rfl rfl (.free rfl)
    ·replace h := cond_f h c4
     refine tri_skip ?_
     refine tri_seq ?_
     refine tri_sr ?_
     refine s_fieldAddr rfl rfl fd33_4 rfl rfl rfl rfl ?_
     refine s_load rfl rfl rfl rfl ty4 rfl (.inr rfl) (by conv => lhs; whnf) rfl rfl rfl ?_
     refine s_fieldAddr rfl rfl fd33_4 rfl rfl rfl rfl ?_
     refine s_load rfl rfl rfl rfl ty4 rfl (.inr rfl) (by conv => lhs; whnf) rfl rfl rfl ?_
     refine s_of (st_neB isb4 rfl rfl rfl) rfl rfl rfl rfl ?_
     refine rt_nil ?_
     refine tri_cond rfl (fun c5 => ?_) (fun c5 => ?_)
     ·replace h := cond_t h c5
      refine tri_sr ?_
      refine s_mv (.inr rfl) (v := .sc (.bool false)) rfl rfl rfl rfl ?_
      refine rt_nil ?_
      refine tri_ret ?_
      have e0 := (some1 h); subst e0
      exact endY [] [] (rvC (resTmp rfl) rvN) trivial trivial rfl rfl rfl rfl (.free rfl)
     ·replace h := cond_f h c5
      refine tri_skip ?_
      refine tri_seq ?_
      refine tri_sr ?_
      refine s_fieldAddr rfl rfl fd33_5 rfl rfl rfl rfl ?_
      refine s_load rfl rfl rfl rfl ty4 rfl (.inr rfl) (by conv => lhs; whnf) rfl rfl rfl ?_
      refine s_fieldAddr rfl rfl fd33_5 rfl rfl rfl rfl ?_
      refine s_load rfl rfl rfl rfl ty4 rfl (.inr rfl) (by conv => lhs; whnf) rfl rfl rfl ?_
      refine s_of (st_neB isb4 rfl rfl rfl) rfl rfl rfl rfl ?_
      refine rt_nil ?_
      refine tri_cond rfl (fun c6 => ?_) (fun c6 => ?_)
      ·replace h := cond_t h c6
       refine tri_sr ?_
       refine s_mv (.inr rfl) (v := .sc (.bool false)) rfl rfl rfl rfl ?_
       refine rt_nil ?_
       refine tri_ret ?_
       have e0 := (some1 h); subst e0
       exact endY [] [] (rvC (resTmp rfl) rvN) trivial trivial rfl rfl rfl rfl (.free rfl)
      ·replace h := cond_f h c6
       refine tri_skip ?_
       refine tri_seq ?_
       refine tri_sr ?_
       refine s_fieldAddr rfl rfl fd33_6 rfl rfl rfl rfl ?_
       refine s_load rfl rfl rfl rfl ty3 rfl (.inr rfl) (by conv => lhs; whnf) rfl rfl rfl ?_
       refine s_fieldAddr rfl rfl fd33_6 rfl rfl rfl rfl ?_
       refine s_load rfl rfl rfl rfl ty3 rfl (.inr rfl) (by conv => lhs; whnf) rfl rfl rfl ?_
       refine s_of (st_neI rfl rfl rfl) rfl rfl rfl rfl ?_
       refine rt_nil ?_
       refine tri_cond rfl (fun c7 => ?_) (fun c7 => ?_)
       ·replace h := cond_t h c7
        refine tri_sr ?_
        refine s_mv (.inr rfl) (v := .sc (.bool false)) rfl rfl rfl rfl ?_
        refine rt_nil ?_
        refine tri_ret ?_
        have e0 := (some1 h); subst e0
        exact endY [] [] (rvC (resTmp rfl) rvN) trivial trivial rfl rfl rfl rfl (.free rfl)
       ·replace h := cond_f h c7
        refine tri_skip ?_
        refine tri_seq ?_
        refine tri_sr ?_
        refine s_fieldAddr rfl rfl fd33_7 rfl rfl rfl rfl ?_
        refine s_load (v := .agg (questV p0.q)) rfl rfl rfl rfl ty24 rfl (.inl rfl) rfl rfl rfl rfl ?_
        refine s_fieldAddr rfl rfl fd33_7 rfl rfl rfl rfl ?_
        refine s_load (v := .agg (questV p1.q)) rfl rfl rfl rfl ty24 rfl (.inl rfl) rfl rfl rfl rfl ?_
        refine bnd1_elim h fun x8 q9 h => ?_
        refine s_callN (kb := []) (ns := []) (v := .sc (.bool x8)) rfl rfl cl8 (ww_eqQuest p0.q p1.q x8 q9) rfl (.cons (relAgg rfl) (.cons (relAgg rfl) .nil)) trivial memNil .nil memNil rfl trivial memNil rfl rfl rfl rfl rfl rfl ?_
        refine s_of (st_not rfl rfl) rfl rfl rfl rfl ?_
        refine rt_nil ?_
        refine tri_cond rfl (fun c10 => ?_) (fun c10 => ?_)
        ·replace h := cond_t h c10
         refine tri_sr ?_
         refine s_mv (.inr rfl) (v := .sc (.bool false)) rfl rfl rfl rfl ?_
         refine rt_nil ?_
         refine tri_ret ?_
         have e0 := (some1 h); subst e0
         exact endY [] [] (rvC (resTmp rfl) rvN) trivial trivial rfl rfl rfl rfl (.free rfl)
        ·replace h := cond_f h c10
         refine tri_skip ?_
         refine tri_seq ?_
         refine tri_sr ?_
         refine s_fieldAddr rfl rfl fd33_8 rfl rfl rfl rfl ?_
         refine s_load rfl rfl rfl rfl ty31 rfl (.inr rfl) (by conv => lhs; whnf) rfl rfl rfl ?_
         refine s_fieldAddr rfl rfl fd33_8 rfl rfl rfl rfl ?_
         refine s_load rfl rfl rfl rfl ty31 rfl (.inr rfl) (by conv => lhs; whnf) rfl rfl rfl ?_
         refine bnd1_elim h fun x11 q12 h => ?_
         refine s_callN (kb := []) (ns := []) (v := .sc (.bool x11)) rfl rfl cl26 (ww_eqRecordS p0.an p1.an x11 q12) rfl (.cons (.free rfl) (.cons (.free rfl) .nil)) trivial memNil .nil memNil rfl trivial memNil rfl rfl rfl rfl rfl rfl ?_
         refine s_of (st_not rfl rfl) rfl rfl rfl rfl ?_
         refine rt_nil ?_
         refine tri_cond rfl (fun c13 => ?_) (fun c13 => ?_)
         ·replace h := cond_t h c13
          refine tri_sr ?_
          refine s_mv (.inr rfl) (v := .sc (.bool false)) rfl rfl rfl rfl ?_
          refine rt_nil ?_
          refine tri_ret ?_
          have e0 := (some1 h); subst e0
          exact endY [] [] (rvC (resTmp rfl) rvN) trivial trivial rfl rfl rfl rfl (.free rfl)
         ·replace h := cond_f h c13
          refine tri_skip ?_
          refine tri_seq ?_
          refine tri_sr ?_
          refine s_fieldAddr rfl rfl fd33_9 rfl rfl rfl rfl ?_
          refine s_load rfl rfl rfl rfl ty31 rfl (.inr rfl) (by conv => lhs; whnf) rfl rfl rfl ?_
          refine s_fieldAddr rfl rfl fd33_9 rfl rfl rfl rfl ?_
          refine s_load rfl rfl rfl rfl ty31 rfl (.inr rfl) (by conv => lhs; whnf) rfl rfl rfl ?_
          refine bnd1_elim h fun x14 q15 h => ?_
          refine s_callN (kb := []) (ns := []) (v := .sc (.bool x14)) rfl rfl cl26 (ww_eqRecordS p0.au p1.au x14 q15) rfl (.cons (.free rfl) (.cons (.free rfl) .nil)) trivial memNil .nil memNil rfl trivial memNil rfl rfl rfl rfl rfl rfl ?_
          refine s_of (st_not rfl rfl) rfl rfl rfl rfl ?_
          refine rt_nil ?_
          refine tri_cond rfl (fun c16 => ?_) (fun c16 => ?_)
          ·replace h := cond_t h c16
           refine tri_sr ?_
           refine s_mv (.inr rfl) (v := .sc (.bool false)) rfl rfl rfl rfl ?_
           refine rt_nil ?_
           refine tri_ret ?_
           have e0 := (some1 h); subst e0
           exact endY [] [] (rvC (resTmp rfl) rvN) trivial trivial rfl rfl rfl rfl (.free rfl)
          ·replace h := cond_f h c16
           refine tri_skip ?_
           refine tri_seq ?_
           refine tri_sr ?_
           refine s_fieldAddr rfl rfl fd33_10 rfl rfl rfl rfl ?_
           refine s_load rfl rfl rfl rfl ty31 rfl (.inr rfl) (by conv => lhs; whnf) rfl rfl rfl ?_
           refine s_fieldAddr rfl rfl fd33_10 rfl rfl rfl rfl ?_
           refine s_load rfl rfl rfl rfl ty31 rfl (.inr rfl) (by conv => lhs; whnf) rfl rfl rfl ?_
           refine bnd1_elim h fun x17 q18 h => ?_
           refine s_callN (kb := []) (ns := []) (v := .sc (.bool x17)) rfl rfl cl26 (ww_eqRecordS p0.ad p1.ad x17 q18) rfl (.cons (.free rfl) (.cons (.free rfl) .nil)) trivial memNil .nil memNil rfl trivial memNil rfl rfl rfl rfl rfl rfl ?_
           refine s_of (st_not rfl rfl) rfl rfl rfl rfl ?_
           refine rt_nil ?_
           refine tri_cond rfl (fun c19 => ?_) (fun c19 => ?_)
           ·replace h := cond_t h c19
            refine tri_sr ?_
            refine s_mv (.inr rfl) (v := .sc (.bool false)) rfl rfl rfl rfl ?_
            refine rt_nil ?_
            refine tri_ret ?_
            have e0 := (some1 h); subst e0
            exact endY [] [] (rvC (resTmp rfl) rvN) trivial trivial rfl rfl rfl rfl (.free rfl)
           ·replace h := cond_f h c19
            refine tri_skip ?_
            refine tri_sr ?_
            refine s_mv (.inr rfl) (v := .sc (.bool true)) rfl rfl rfl rfl ?_
            refine rt_nil ?_
            refine tri_ret ?_
            have e0 := (some1 h); subst e0
            exact endY [] [] (rvC (resTmp rfl) rvN) trivial trivial rfl rfl rfl rfl (.free rfl)

/- laws.eqByteS -/
def inv_w_eqByteS_0 (p0 : List Int) (p1 : List Int) (v0_0 : Nat) : St := mkT 26 [(0, .lst 1 (List.map byteV p0)), (1, .lst 1 (List.map byteV p1)), (5, .sc (.int .i64 (v0_0 : Int)))] []
set_option maxRecDepth 4000 in
set_option maxHeartbeats 800000 in
theorem ww_eqByteS (p0 : List Int) (p1 : List Int) (r0 : Bool) (h : w_eqByteS p0 p1 = some r0) : Runs Tryd.prog 9 [.lst 1 (List.map byteV p0), .lst 1 (List.map byteV p1)] [] (.sc (.bool r0)) [] := by
 unfold w_eqByteS at h
 refine runsR [.tmp 4] Tryd.func9 rfl rfl rfl rfl ?_
 rw [Tryd.ntmps9]
 refine tri_sr ?_
 refine s_mv (.inr rfl) (v := .sc (.bool false)) rfl rfl rfl rfl ?_
 refine rt_nil ?_
 refine tri_seq ?_
 refine tri_sr ?_
 refine m1 ?_
 refine s_lenL rfl sl22 rfl rfl rfl rfl ?_
 refine m1 ?_
 refine s_lenL rfl sl22 rfl rfl rfl rfl ?_
 refine s_of (st_neI rfl rfl rfl) rfl rfl rfl rfl ?_
 refine rt_nil ?_
 refine tri_cond rfl (fun c1 => ?_) (fun c1 => ?_)
 ·replace h := cond_t h c1
  refine tri_sr ?_
  refine s_mv (.inr rfl) (v := .sc (.bool false)) rfl rfl rfl rfl ?_
  refine rt_nil ?_
  refine tri_ret ?_
  have e0 := (some1 h); subst e0
  exact endY [] [] (rvC (resTmp rfl) rvN) trivial trivial rfl rfl rfl rfl (.free rfl)
 ·replace h := cond_f h c1
  refine tri_skip ?_
  refine tri_seq ?_
  refine tri_sr ?_
  refine s_mv (.inr rfl) (v := .sc (.int .i64 0)) rfl rfl rfl rfl ?_
  refine rt_nil ?_
  refine tri_block ?_
  refine tri_lstM 0 rfl (fun hl0 => ?_)
  refine tri_loop (ι := { p : (List Int) × Nat // p0.drop p.2 = p.1 ∧ w_eqByteS_l0 p1 p.1 p.2 = some r0 }) (fun p => inv_w_eqByteS_0 p0 p1 p.1.2) (fun p => p.1.1.length) ⟨(p0, 0), rfl, h⟩ ?_ ?_
  ·skip
   refine entX [] [] trivial trivial rfl rfl ?_
   exact ⟨(.free rfl), (.free rfl), (.free rfl), trivial⟩
  ·rintro ⟨⟨lrs0, v0_0⟩, hd0, h⟩
   replace hd0 : p0.drop v0_0 = lrs0 := hd0
   replace h : w_eqByteS_l0 p1 lrs0 v0_0 = some r0 := h
   show Tri _ _ _ (inv_w_eqByteS_0 p0 p1 v0_0)
   refine tri_seq ?_
   refine tri_sr ?_
   refine m1 ?_
   refine m1 ?_
   refine s_lenL rfl sl22 rfl rfl rfl rfl ?_
   refine s_of (st_lss rfl rfl rfl) rfl rfl rfl rfl ?_
   refine rt_nil ?_
   refine tri_cond rfl (fun c2 => ?_) (fun c2 => ?_)
   ·refine drop_elim hd0 c2 fun e0 rs0 he hx0 hn0 => ?_
    subst he
    rw [w_eqByteS_l0] at h
    refine tri_skip ?_
    refine tri_seq ?_
    refine tri_block ?_
    refine tri_seq ?_
    refine tri_draw mixed ?_
    refine m1 ?_
    refine m1 ?_
    refine s_indexF (i := v0_0) rfl rfl rfl sl22 (get_ltM hx0) rfl rfl rfl ?_
    refine s_loadF rfl rfl (rowG hx0) ty5 rfl (.inr rfl) (by conv => lhs; whnf) rfl rfl rfl ?_
    refine m1 ?_
    refine m1 ?_
    refine bnd1_elim h fun x3 q4 h => ?_
    have q4a := (idx_some q4).1; have q4b := (idx_some q4).2
    refine s_indexFZ rfl rfl rfl sl22 q4a (get_ltM q4b) rfl rfl rfl ?_
    refine s_loadF rfl rfl (rowG q4b) ty5 rfl (.inr rfl) (by conv => lhs; whnf) rfl rfl rfl ?_
    refine s_of (st_neI rfl rfl rfl) rfl rfl rfl rfl ?_
    refine rt_nil ⟨by kernel_rfl, ?_⟩
    refine tri_cond rfl (fun c5 => ?_) (fun c5 => ?_)
    ·replace h := cond_t h c5
     refine tri_sr ?_
     refine s_mv (.inr rfl) (v := .sc (.bool false)) rfl rfl rfl rfl ?_
     refine rt_nil ?_
     refine tri_ret ?_
     have e0 := (some1 h); subst e0
     exact endY [] [] (rvC (resTmp rfl) rvN) trivial trivial rfl rfl rfl rfl (.free rfl)
    ·replace h := cond_f h c5
     refine tri_skip ?_
     refine tri_region ?_
     refine m1 ?_
     refine s_inc (a := v0_0) (b := 1) rfl rfl rfl rfl (by have := get_lt hx0; have := hl0; omega) rfl rfl rfl ?_
     refine m2 ?_
     refine rt_nil ?_
     refine Exists.intro ⟨(rs0, (v0_0 + 1)), hn0, h⟩ (And.intro (Nat.lt_succ_self _) ?_)
     refine entX [] [] trivial trivial rfl rfl ?_
     exact ⟨(.free rfl), (.free rfl), (.free rfl), trivial⟩
   ·have he := drop_f hd0 c2; subst he
    rw [w_eqByteS_l0] at h
    refine tri_exit ?_
    refine tri_sr ?_
    refine s_mv (.inr rfl) (v := .sc (.bool true)) rfl rfl rfl rfl ?_
    refine rt_nil ?_
    refine tri_ret ?_
    have e0 := (some1 h); subst e0
    exact endY [] [] (rvC (resTmp rfl) rvN) trivial trivial rfl rfl rfl rfl (.free rfl)

/- laws.markByteS -/
def inv_w_markByteS_0  (v0_0 : List Int) (v0_1 : Int) (v0_2 : Int) : St := mkT 20 [(0, .ref (1000, 0) 0 v0_0.length), (1, .sc (.int .i64 v0_1)), (5, .sc (.int .i64 v0_2))] [((1000, 0), some ⟨5, 1, List.map byteV v0_0, false, false⟩)]
set_option maxRecDepth 4000 in
set_option maxHeartbeats 800000 in
theorem ww_markByteS (p0 : List Int) (p1 : Int) (r0 : Int) (r1 : List Int) (h : w_markByteS p0 p1 = some (r0, r1)) : Runs Tryd.prog 13 [.ref (1000, 0) 0 p0.length, .sc (.int .i64 p1)] [⟨5, 1, List.map byteV p0, false, false⟩] (.sc (.int .i64 r0)) [⟨5, 1, List.map byteV r1, false, false⟩] := by
 unfold w_markByteS at h
 refine runsR [.tmp 4] Tryd.func13 rfl rfl rfl rfl ?_
 rw [Tryd.ntmps13]
 refine tri_sr ?_
 refine s_mv (.inr rfl) (v := .sc (.int .i64 0)) rfl rfl rfl rfl ?_
 refine rt_nil ?_
 refine tri_seq ?_
 refine tri_sr ?_
 refine s_mv (.inr rfl) (v := .sc (.int .i64 0)) rfl rfl rfl rfl ?_
 refine rt_nil ?_
 refine tri_block ?_
 refine tri_loop (ι := { p : Nat × (List Int) × Int × Int // w_markByteS_l0 p.1 p.2.1 p.2.2.1 p.2.2.2 = some (r0, r1) }) (fun p => inv_w_markByteS_0 p.1.2.1 p.1.2.2.1 p.1.2.2.2) (fun p => p.1.1) ⟨(fuel0, p0, p1, 0), h⟩ ?_ ?_
 ·skip
  refine entX [((1000, 0), ⟨5, 1, List.map byteV p0, false, false⟩, some (1000, 0))] [] ⟨⟨rfl, _, rfl, rfl, rfl, rfl, id, rowsCv_eq rfl (allFree_map byteV_free), rowsZ_map byteV_len⟩, trivial⟩ trivial rfl rfl ?_
  exact ⟨(.ref rfl), (.free rfl), (.free rfl), trivial⟩
 ·rintro ⟨⟨f0, v0_0, v0_1, v0_2⟩, h⟩
  replace h : w_markByteS_l0 f0 v0_0 v0_1 v0_2 = some (r0, r1) := h
  cases f0 with
  | zero => cases h
  | succ f0 =>
  rw [w_markByteS_l0] at h
  show Tri _ _ _ (inv_w_markByteS_0 v0_0 v0_1 v0_2)
  refine tri_seq ?_
  refine tri_sr ?_
  refine m1 ?_
  refine m1 ?_
  refine s_len (m := v0_0.length) rfl sl22 rfl rfl rfl rfl ?_
  refine s_of (st_lss rfl rfl rfl) rfl rfl rfl rfl ?_
  refine rt_nil ?_
  refine tri_cond rfl (fun c1 => ?_) (fun c1 => ?_)
  ·replace h := cond_t h c1
   refine tri_skip ?_
   refine tri_seq ?_
   refine tri_block ?_
   refine tri_sr ?_
   refine m1 ?_
   refine m1 ?_
   refine m1 ?_
   refine s_of (st_conv ik3 ik5 rfl rfl) rfl rfl rfl rfl ?_
   refine bnd1_elim h fun x2 q3 h => ?_
   have q3a := (idx_some q3).1; have q3b := (idx_some q3).2
   refine s_indexZ rfl rfl rfl rfl sl22 rfl q3a (get_lt q3b) rfl rfl rfl ?_
   refine s_storeL (x' := IntKind.u8.wrap v0_1) rfl rfl rfl q3b ty5 rfl rfl rfl rfl rfl rfl ?_
   refine rt_nil ?_
   refine tri_region ?_
   refine m1 ?_
   refine grd_elim h fun g4 h => ?_
   refine s_addI rfl rfl rfl rfl g4 rfl rfl rfl ?_
   refine m2 ?_
   refine rt_nil ?_
   refine tri_region ?_
   refine m1 ?_
   refine grd_elim h fun g5 h => ?_
   refine s_addI rfl rfl rfl rfl g5 rfl rfl rfl ?_
   refine m2 ?_
   refine rt_nil ?_
   refine Exists.intro ⟨(f0, v0_0.set v0_2.toNat (IntKind.u8.wrap v0_1), v0_1 + 1, v0_2 + 1), h⟩ (And.intro (Nat.lt_succ_self _) ?_)
   refine entX [((1000, 0), ⟨5, 1, List.map byteV (v0_0.set v0_2.toNat (IntKind.u8.wrap v0_1)), false, false⟩, some (1000, 0))] [] ⟨⟨rfl, _, rfl, rfl, rfl, rfl, id, rowsCv_eq rfl (allFree_map byteV_free), rowsZ_map byteV_len⟩, trivial⟩ trivial rfl rfl ?_
   exact ⟨(cvRefLen rfl (by simp only [List.length_set])), (.free rfl), (.free rfl), trivial⟩
  ·replace h := cond_f h c1
   refine tri_exit ?_
   refine tri_sr ?_
   refine m1 ?_
   refine m2 ?_
   refine rt_nil ?_
   refine tri_ret ?_
   have e0 := (some2 h).1; have e1 := (some2 h).2; subst e0; subst e1
   exact endY [((1000, 0), ⟨5, 1, List.map byteV v0_0, false, false⟩, some (1000, 0))] [] (rvC (resTmp rfl) rvN) ⟨⟨rfl, _, rfl, rfl, rfl, rfl, id, rowsCv_eq rfl (allFree_map byteV_free), rowsZ_map byteV_len⟩, trivial⟩ trivial rfl rfl (by kernel_rfl) rfl (.free rfl)

/- laws.markText -/
def inv_w_markText_0  (v0_0 : Int) (v0_1 : ByteArray) : St := mkT 20 [(0, .sc (.int .i64 v0_0)), (3, .sc (.string v0_1))] []
set_option maxRecDepth 4000 in
set_option maxHeartbeats 800000 in
theorem ww_markText (p0 : Int) (r0 : ByteArray) (h : w_markText p0 = some r0) : Runs Tryd.prog 40 [.sc (.int .i64 p0)] [] (.sc (.string r0)) [] := by
 unfold w_markText at h
 refine runsR [.tmp 2] Tryd.func40 rfl rfl rfl rfl ?_
 rw [Tryd.ntmps40]
 refine tri_sr ?_
 refine s_mv (.inr rfl) (v := .sc (.string (⟨#[]⟩ : ByteArray))) rfl rfl rfl rfl ?_
 refine rt_nil ?_
 refine tri_seq ?_
 refine tri_sr ?_
 refine m1 ?_
 refine s_of (st_leq rfl rfl rfl) rfl rfl rfl rfl ?_
 refine rt_nil ?_
 refine tri_cond rfl (fun c1 => ?_) (fun c1 => ?_)
 ·replace h := cond_t h c1
  refine tri_sr ?_
  refine s_mv (.inr rfl) (v := .sc (.string (⟨#[109, 48]⟩ : ByteArray))) rfl rfl rfl rfl ?_
  refine rt_nil ?_
  refine tri_ret ?_
  have e0 := (some1 h); subst e0
  exact endY [] [] (rvC (resTmp rfl) rvN) trivial trivial rfl rfl rfl rfl (.free rfl)
 ·replace h := cond_f h c1
  refine tri_skip ?_
  refine tri_sr ?_
  refine s_mv (.inr rfl) (v := .sc (.string (⟨#[]⟩ : ByteArray))) rfl rfl rfl rfl ?_
  refine rt_nil ?_
  refine tri_seq ?_
  refine tri_block ?_
  refine tri_loop (ι := { p : Nat × Int × ByteArray // w_markText_l0 p.1 p.2.1 p.2.2 = some r0 }) (fun p => inv_w_markText_0 p.1.2.1 p.1.2.2) (fun p => p.1.1) ⟨(fuel0, p0, (⟨#[]⟩ : ByteArray)), h⟩ ?_ ?_
  ·skip
   refine entX [] [] trivial trivial rfl rfl ?_
   exact ⟨(.free rfl), (.free rfl), trivial⟩
  ·rintro ⟨⟨f0, v0_0, v0_1⟩, h⟩
   replace h : w_markText_l0 f0 v0_0 v0_1 = some r0 := h
   cases f0 with
   | zero => cases h
   | succ f0 =>
   rw [w_markText_l0] at h
   show Tri _ _ _ (inv_w_markText_0 v0_0 v0_1)
   refine tri_seq ?_
   refine tri_sr ?_
   refine m1 ?_
   refine s_of (st_gtr rfl rfl rfl) rfl rfl rfl rfl ?_
   refine rt_nil ?_
   refine tri_cond rfl (fun c2 => ?_) (fun c2 => ?_)
   ·replace h := cond_t h c2
    refine tri_skip ?_
    refine tri_block ?_
    refine tri_sr ?_
    refine m1 ?_
    refine s_of (st_rem rfl rfl rfl (by decide)) rfl rfl rfl rfl ?_
    refine grd_elim h fun g3 h => ?_
    refine s_addI rfl rfl rfl rfl g3 rfl rfl rfl ?_
    refine s_of (st_conv ik3 ik5 rfl rfl) rfl rfl rfl rfl ?_
    refine s_buildSlice (rows' := List.map byteV [IntKind.u8.wrap (48 + (Int.tmod v0_0 10))]) rfl rfl rfl sl22 zc5 rfl rfl rfl rfl rfl rfl rfl rfl rfl ?_
    refine s_toString rfl (src_refL rfl rfl) byt22 iss9 rfl rfl rfl rfl ?_
    refine m1 ?_
    refine grd_elim h fun g4 h => ?_
    refine s_of (st_catS g4 rfl rfl rfl) rfl rfl rfl rfl ?_
    refine m2 ?_
    refine rt_nil ?_
    refine tri_region ?_
    refine m1 ?_
    refine s_of (st_quo rfl rfl rfl (by decide)) rfl rfl rfl rfl ?_
    refine m2 ?_
    refine rt_nil ?_
    refine Exists.intro ⟨(f0, IntKind.i64.wrap (Int.tdiv v0_0 10), (strOfNums [IntKind.u8.wrap (48 + (Int.tmod v0_0 10))]) ++ v0_1), h⟩ (And.intro (Nat.lt_succ_self _) ?_)
    refine entX [] [] trivial trivial rfl rfl ?_
    exact ⟨(.free rfl), (.free rfl), trivial⟩
   ·replace h := cond_f h c2
    refine tri_exit ?_
    refine tri_sr ?_
    refine m1 ?_
    refine grd_elim h fun g5 h => ?_
    refine s_of (st_catS g5 rfl rfl rfl) rfl rfl rfl rfl ?_
    refine m2 ?_
    refine rt_nil ?_
    refine tri_ret ?_
    have e0 := (some1 h); subst e0
    exact endY [] [] (rvC (resTmp rfl) rvN) trivial trivial rfl rfl rfl rfl (.free rfl)

/- laws.markRecordS -/
def inv_w_markRecordS_0  (v0_0 : List Rec) (v0_1 : Int) (v0_2 : Int) : St := mkT 58 [(0, .ref (1000, 0) 0 v0_0.length), (1, .sc (.int .i64 v0_1)), (5, .sc (.int .i64 v0_2))] [((1000, 0), some ⟨62, 6, List.map recV v0_0, false, false⟩)]
set_option maxRecDepth 4000 in
set_option maxHeartbeats 800000 in
theorem ww_markRecordS (p0 : List Rec) (p1 : Int) (r0 : Int) (r1 : List Rec) (h : w_markRecordS p0 p1 = some (r0, r1)) : Runs Tryd.prog 27 [.ref (1000, 0) 0 p0.length, .sc (.int .i64 p1)] [⟨62, 6, List.map recV p0, false, false⟩] (.sc (.int .i64 r0)) [⟨62, 6, List.map recV r1, false, false⟩] := by
 unfold w_markRecordS at h
 refine runsR [.tmp 4] Tryd.func27 rfl rfl rfl rfl ?_
 rw [Tryd.ntmps27]
 refine tri_sr ?_
 refine s_mv (.inr rfl) (v := .sc (.int .i64 0)) rfl rfl rfl rfl ?_
 refine rt_nil ?_
 refine tri_seq ?_
 refine tri_sr ?_
 refine s_mv (.inr rfl) (v := .sc (.int .i64 0)) rfl rfl rfl rfl ?_
 refine rt_nil ?_
 refine tri_block ?_
 refine tri_loop (ι := { p : Nat × (List Rec) × Int × Int // w_markRecordS_l0 p.1 p.2.1 p.2.2.1 p.2.2.2 = some (r0, r1) }) (fun p => inv_w_markRecordS_0 p.1.2.1 p.1.2.2.1 p.1.2.2.2) (fun p => p.1.1) ⟨(fuel0, p0, p1, 0), h⟩ ?_ ?_
 ·skip
  refine entX [((1000, 0), ⟨62, 6, List.map recV p0, false, false⟩, some (1000, 0))] [] ⟨⟨rfl, _, rfl, rfl, rfl, rfl, id, rowsCv_eq rfl (allFree_map recV_free), rowsZ_map recV_len⟩, trivial⟩ trivial rfl rfl ?_
  exact ⟨(.ref rfl), (.free rfl), (.free rfl), trivial⟩
 ·rintro ⟨⟨f0, v0_0, v0_1, v0_2⟩, h⟩
  replace h : w_markRecordS_l0 f0 v0_0 v0_1 v0_2 = some (r0, r1) := h
  cases f0 with
  | zero => cases h
  | succ f0 =>
  rw [w_markRecordS_l0] at h
  show Tri _ _ _ (inv_w_markRecordS_0 v0_0 v0_1 v0_2)
  refine tri_seq ?_
  refine tri_sr ?_
  refine m1 ?_
  refine m1 ?_
  refine s_len (m := v0_0.length) rfl sl31 rfl rfl rfl rfl ?_
  refine s_of (st_lss rfl rfl rfl) rfl rfl rfl rfl ?_
  refine rt_nil ?_
  refine tri_cond rfl (fun c1 => ?_) (fun c1 => ?_)
  ·replace h := cond_t h c1
   refine tri_skip ?_
   refine tri_seq ?_
   refine tri_block ?_
   refine tri_sr ?_
   refine m1 ?_
   refine m1 ?_
   refine m1 ?_
   refine bnd1_elim h fun x2 q3 h => ?_
   refine s_callN (kb := []) (ns := []) (v := .sc (.string x2)) rfl rfl cl40 (ww_markText v0_1 x2 q3) rfl (.cons (.free rfl) .nil) trivial memNil .nil memNil rfl trivial memNil rfl rfl rfl rfl rfl rfl ?_
   refine bnd1_elim h fun x4 q5 h => ?_
   have q5a := (idx_some q5).1; have q5b := (idx_some q5).2
   refine s_indexZ rfl rfl rfl rfl sl31 rfl q5a (get_lt q5b) rfl rfl rfl ?_
   refine s_fieldAddr rfl rfl fd62_0 rfl rfl rfl rfl ?_
   refine s_storeL (x' := Rec.mk x2 x4.ty x4.ttl x4.n x4.host x4.text) rfl rfl rfl q5b ty9 rfl rfl rfl rfl rfl rfl ?_
   refine rt_nil ?_
   refine tri_sr ?_
   refine m1 ?_
   refine grd_elim h fun g6 h => ?_
   refine s_addI rfl rfl rfl rfl g6 rfl rfl rfl ?_
   refine m2 ?_
   refine rt_nil ?_
   refine tri_sr ?_
   refine m1 ?_
   refine m1 ?_
   refine m1 ?_
   refine s_indexZ rfl rfl rfl rfl sl31 rfl q5a (by have q := get_lt q5b; simpa only [List.length_set] using q) rfl rfl rfl ?_
   refine s_fieldAddr rfl rfl fd62_1 rfl rfl rfl rfl ?_
   refine s_storeL (x' := Rec.mk x2 (v0_1 + 1) x4.ttl x4.n x4.host x4.text) rfl rfl rfl (get_set q5b) ty3 rfl rfl rfl rfl rfl rfl ?_
   refine rt_nil ?_
   refine tri_sr ?_
   refine m1 ?_
   refine grd_elim h fun g7 h => ?_
   refine s_addI rfl rfl rfl rfl g7 rfl rfl rfl ?_
   refine m2 ?_
   refine rt_nil ?_
   refine tri_sr ?_
   refine m1 ?_
   refine m1 ?_
   refine m1 ?_
   refine s_indexZ rfl rfl rfl rfl sl31 rfl q5a (by have q := get_lt q5b; simpa only [List.length_set] using q) rfl rfl rfl ?_
   refine s_fieldAddr rfl rfl fd62_2 rfl rfl rfl rfl ?_
   refine s_storeL (x' := Rec.mk x2 (v0_1 + 1) ((v0_1 + 1) + 1) x4.n x4.host x4.text) rfl rfl rfl (get_set (get_set q5b)) ty3 rfl rfl rfl rfl rfl rfl ?_
   refine rt_nil ?_
   refine tri_sr ?_
   refine m1 ?_
   refine grd_elim h fun g8 h => ?_
   refine s_addI rfl rfl rfl rfl g8 rfl rfl rfl ?_
   refine m2 ?_
   refine rt_nil ?_
   refine tri_sr ?_
   refine m1 ?_
   refine m1 ?_
   refine m1 ?_
   refine s_indexZ rfl rfl rfl rfl sl31 rfl q5a (by have q := get_lt q5b; simpa only [List.length_set] using q) rfl rfl rfl ?_
   refine s_fieldAddr rfl rfl fd62_3 rfl rfl rfl rfl ?_
   refine s_storeL (x' := Rec.mk x2 (v0_1 + 1) ((v0_1 + 1) + 1) (((v0_1 + 1) + 1) + 1) x4.host x4.text) rfl rfl rfl (get_set (get_set (get_set q5b))) ty3 rfl rfl rfl rfl rfl rfl ?_
   refine rt_nil ?_
   refine tri_sr ?_
   refine m1 ?_
   refine grd_elim h fun g9 h => ?_
   refine s_addI rfl rfl rfl rfl g9 rfl rfl rfl ?_
   refine m2 ?_
   refine rt_nil ?_
   refine tri_sr ?_
   refine m1 ?_
   refine m1 ?_
   refine m1 ?_
   refine bnd1_elim h fun x10 q11 h => ?_
   refine s_callN (kb := []) (ns := []) (v := .sc (.string x10)) rfl rfl cl40 (ww_markText ((((v0_1 + 1) + 1) + 1) + 1) x10 q11) rfl (.cons (.free rfl) .nil) trivial memNil .nil memNil rfl trivial memNil rfl rfl rfl rfl rfl rfl ?_
   refine s_indexZ rfl rfl rfl rfl sl31 rfl q5a (by have q := get_lt q5b; simpa only [List.length_set] using q) rfl rfl rfl ?_
   refine s_fieldAddr rfl rfl fd62_4 rfl rfl rfl rfl ?_
   refine s_storeL (x' := Rec.mk x2 (v0_1 + 1) ((v0_1 + 1) + 1) (((v0_1 + 1) + 1) + 1) x10 x4.text) rfl rfl rfl (get_set (get_set (get_set (get_set q5b)))) ty9 rfl rfl rfl rfl rfl rfl ?_
   refine rt_nil ?_
   refine tri_sr ?_
   refine m1 ?_
   refine grd_elim h fun g12 h => ?_
   refine s_addI rfl rfl rfl rfl g12 rfl rfl rfl ?_
   refine m2 ?_
   refine rt_nil ?_
   refine tri_sr ?_
   refine m1 ?_
   refine m1 ?_
   refine m1 ?_
   refine bnd1_elim h fun x13 q14 h => ?_
   refine s_callN (kb := []) (ns := []) (v := .sc (.string x13)) rfl rfl cl40 (ww_markText (((((v0_1 + 1) + 1) + 1) + 1) + 1) x13 q14) rfl (.cons (.free rfl) .nil) trivial memNil .nil memNil rfl trivial memNil rfl rfl rfl rfl rfl rfl ?_
   refine s_indexZ rfl rfl rfl rfl sl31 rfl q5a (by have q := get_lt q5b; simpa only [List.length_set] using q) rfl rfl rfl ?_
   refine s_fieldAddr rfl rfl fd62_5 rfl rfl rfl rfl ?_
   refine s_storeL (x' := Rec.mk x2 (v0_1 + 1) ((v0_1 + 1) + 1) (((v0_1 + 1) + 1) + 1) x10 x13) rfl rfl rfl (get_set (get_set (get_set (get_set (get_set q5b))))) ty9 rfl rfl rfl rfl rfl rfl ?_
   refine rt_nil ?_
   refine tri_region ?_
   refine m1 ?_
   refine grd_elim h fun g15 h => ?_
   refine s_addI rfl rfl rfl rfl g15 rfl rfl rfl ?_
   refine m2 ?_
   refine rt_nil ?_
   refine tri_region ?_
   refine m1 ?_
   refine grd_elim h fun g16 h => ?_
   refine s_addI rfl rfl rfl rfl g16 rfl rfl rfl ?_
   refine m2 ?_
   refine rt_nil ?_
   refine Exists.intro ⟨(f0, (((((v0_0.set v0_2.toNat (Rec.mk x2 x4.ty x4.ttl x4.n x4.host x4.text)).set v0_2.toNat (Rec.mk x2 (v0_1 + 1) x4.ttl x4.n x4.host x4.text)).set v0_2.toNat (Rec.mk x2 (v0_1 + 1) ((v0_1 + 1) + 1) x4.n x4.host x4.text)).set v0_2.toNat (Rec.mk x2 (v0_1 + 1) ((v0_1 + 1) + 1) (((v0_1 + 1) + 1) + 1) x4.host x4.text)).set v0_2.toNat (Rec.mk x2 (v0_1 + 1) ((v0_1 + 1) + 1) (((v0_1 + 1) + 1) + 1) x10 x4.text)).set v0_2.toNat (Rec.mk x2 (v0_1 + 1) ((v0_1 + 1) + 1) (((v0_1 + 1) + 1) + 1) x10 x13), (((((v0_1 + 1) + 1) + 1) + 1) + 1) + 1, v0_2 + 1), h⟩ (And.intro (Nat.lt_succ_self _) ?_)
   refine entX [((1000, 0), ⟨62, 6, List.map recV ((((((v0_0.set v0_2.toNat (Rec.mk x2 x4.ty x4.ttl x4.n x4.host x4.text)).set v0_2.toNat (Rec.mk x2 (v0_1 + 1) x4.ttl x4.n x4.host x4.text)).set v0_2.toNat (Rec.mk x2 (v0_1 + 1) ((v0_1 + 1) + 1) x4.n x4.host x4.text)).set v0_2.toNat (Rec.mk x2 (v0_1 + 1) ((v0_1 + 1) + 1) (((v0_1 + 1) + 1) + 1) x4.host x4.text)).set v0_2.toNat (Rec.mk x2 (v0_1 + 1) ((v0_1 + 1) + 1) (((v0_1 + 1) + 1) + 1) x10 x4.text)).set v0_2.toNat (Rec.mk x2 (v0_1 + 1) ((v0_1 + 1) + 1) (((v0_1 + 1) + 1) + 1) x10 x13)), false, false⟩, some (1000, 0))] [] ⟨⟨rfl, _, rfl, rfl, rfl, rfl, id, rowsCv_eq rfl (allFree_map recV_free), rowsZ_map recV_len⟩, trivial⟩ trivial rfl rfl ?_
   exact ⟨(cvRefLen rfl (by simp only [List.length_set])), (.free rfl), (.free rfl), trivial⟩
  ·replace h := cond_f h c1
   refine tri_exit ?_
   refine tri_sr ?_
   refine m1 ?_
   refine m2 ?_
   refine rt_nil ?_
   refine tri_ret ?_
   have e0 := (some2 h).1; have e1 := (some2 h).2; subst e0; subst e1
   exact endY [((1000, 0), ⟨62, 6, List.map recV v0_0, false, false⟩, some (1000, 0))] [] (rvC (resTmp rfl) rvN) ⟨⟨rfl, _, rfl, rfl, rfl, rfl, id, rowsCv_eq rfl (allFree_map recV_free), rowsZ_map recV_len⟩, trivial⟩ trivial rfl rfl (by kernel_rfl) rfl (.free rfl)

/- laws.markMsg -/

set_option maxRecDepth 4000 in
set_option maxHeartbeats 800000 in
theorem ww_markMsg (p0 : MMsg) (p1 : Int) (r0 : Int) (r1 : List Rec) (r2 : List Rec) (r3 : List Rec) (h : w_markMsg p0 p1 = some (r0, r1, r2, r3)) : Runs Tryd.prog 14 [.agg [.sc (.int .i64 p0.id), .sc (.bool p0.reply), .sc (.bool p0.auth), .sc (.bool p0.cut), .sc (.bool p0.want), .sc (.bool p0.can), .sc (.int .i64 p0.code), .sc (.string p0.q.name), .sc (.int .i64 p0.q.ty), .ref (1000, 0) 0 p0.an.length, .ref (1000, 1) 0 p0.au.length, .ref (1000, 2) 0 p0.ad.length], .sc (.int .i64 p1)] [⟨62, 6, List.map recV p0.an, false, false⟩, ⟨62, 6, List.map recV p0.au, false, false⟩, ⟨62, 6, List.map recV p0.ad, false, false⟩] (.sc (.int .i64 r0)) [⟨62, 6, List.map recV r1, false, false⟩, ⟨62, 6, List.map recV r2, false, false⟩, ⟨62, 6, List.map recV r3, false, false⟩] := by
 unfold w_markMsg at h
 refine runsR [.tmp 4] Tryd.func14 rfl rfl rfl rfl ?_
 rw [Tryd.ntmps14]
 refine tri_sr ?_
 refine s_box rfl rfl rfl rfl rfl rfl rfl ?_
 refine s_mv (.inr rfl) (v := .sc (.int .i64 0)) rfl rfl rfl rfl ?_
 refine rt_nil ?_
 refine tri_sr ?_
 refine s_fieldAddr rfl rfl fd33_8 rfl rfl rfl rfl ?_
 refine s_load rfl rfl rfl rfl ty31 rfl (.inr rfl) (by conv => lhs; whnf) rfl rfl rfl ?_
 refine m1 ?_
 refine bnd2_elim h fun x1 x2 q3 h => ?_
 refine grd_elim h fun g4 h => ?_
 refine s_callN (kb := []) (ns := [(1000, 0)]) (v := .sc (.int .i64 x1)) rfl rfl cl27 (ww_markRecordS p0.an p1 x1 x2 q3) rfl (.cons (.refOwn rfl) (.cons (.free rfl) .nil)) ⟨⟨_, rfl, rfl⟩, trivial⟩ (memCons (allFree_map recV_free) memNil) (List.nodup_cons.2 ⟨List.not_mem_nil, .nil⟩) memNil rfl trivial (memCons (allSc_map recV_sc) memNil) rfl rfl rfl rfl rfl rfl ?_
 refine m2 ?_
 refine rt_nil ?_
 refine tri_sr ?_
 refine s_fieldAddr rfl rfl fd33_9 rfl rfl rfl rfl ?_
 refine s_load rfl rfl rfl rfl ty31 rfl (.inr rfl) (by conv => lhs; whnf) rfl rfl rfl ?_
 refine m1 ?_
 refine bnd2_elim h fun x5 x6 q7 h => ?_
 refine grd_elim h fun g8 h => ?_
 refine s_callN (kb := []) (ns := [(1000, 1)]) (v := .sc (.int .i64 x5)) rfl rfl cl27 (ww_markRecordS p0.au x1 x5 x6 q7) rfl (.cons (.refOwn rfl) (.cons (.free rfl) .nil)) ⟨⟨_, rfl, rfl⟩, trivial⟩ (memCons (allFree_map recV_free) memNil) (List.nodup_cons.2 ⟨List.not_mem_nil, .nil⟩) memNil rfl trivial (memCons (allSc_map recV_sc) memNil) rfl rfl rfl rfl rfl rfl ?_
 refine m2 ?_
 refine rt_nil ?_
 refine tri_sr ?_
 refine s_fieldAddr rfl rfl fd33_10 rfl rfl rfl rfl ?_
 refine s_load rfl rfl rfl rfl ty31 rfl (.inr rfl) (by conv => lhs; whnf) rfl rfl rfl ?_
 refine m1 ?_
 refine bnd2_elim h fun x9 x10 q11 h => ?_
 refine grd_elim h fun g12 h => ?_
 refine s_callN (kb := []) (ns := [(1000, 2)]) (v := .sc (.int .i64 x9)) rfl rfl cl27 (ww_markRecordS p0.ad x5 x9 x10 q11) rfl (.cons (.refOwn rfl) (.cons (.free rfl) .nil)) ⟨⟨_, rfl, rfl⟩, trivial⟩ (memCons (allFree_map recV_free) memNil) (List.nodup_cons.2 ⟨List.not_mem_nil, .nil⟩) memNil rfl trivial (memCons (allSc_map recV_sc) memNil) rfl rfl rfl rfl rfl rfl ?_
 refine m2 ?_
 refine rt_nil ?_
 refine tri_sr ?_
 refine m1 ?_
 refine m2 ?_
 refine rt_nil ?_
 refine tri_ret ?_
 have e0 := (some4 h).1; have e1 := (some4 h).2.1; have e2 := (some4 h).2.2.1; have e3 := (some4 h).2.2.2; subst e0; subst e1; subst e2; subst e3
 exact endY [((1000, 0), ⟨62, 6, List.map recV x2, false, false⟩, some (1000, 0)), ((1000, 1), ⟨62, 6, List.map recV x6, false, false⟩, some (1000, 1)), ((1000, 2), ⟨62, 6, List.map recV x10, false, false⟩, some (1000, 2))] [] (rvC (resTmp rfl) rvN) ⟨⟨rfl, _, rfl, rfl, rfl, rfl, id, rowsCv_eq rfl (allFree_map recV_free), rowsZ_map recV_len⟩, ⟨rfl, _, rfl, rfl, rfl, rfl, id, rowsCv_eq rfl (allFree_map recV_free), rowsZ_map recV_len⟩, ⟨rfl, _, rfl, rfl, rfl, rfl, id, rowsCv_eq rfl (allFree_map recV_free), rowsZ_map recV_len⟩, trivial⟩ trivial rfl rfl (by kernel_rfl) rfl (.free rfl)

/- laws.heldRecordS -/
def inv_w_heldRecordS_0 (p0 : List Rec) (v0_0 : Int) (v0_1 : Nat) : St := mkT 70 [(0, .lst 6 (List.map recV p0)), (1, .sc (.int .i64 v0_0)), (5, .sc (.int .i64 (v0_1 : Int)))] []
set_option maxRecDepth 4000 in
set_option maxHeartbeats 800000 in
theorem ww_heldRecordS (p0 : List Rec) (p1 : Int) (r0 : Int) (h : w_heldRecordS p0 p1 = some r0) : Runs Tryd.prog 28 [.lst 6 (List.map recV p0), .sc (.int .i64 p1)] [] (.sc (.int .i64 r0)) [] := by
 unfold w_heldRecordS at h
 refine runsR [.tmp 4] Tryd.func28 rfl rfl rfl rfl ?_
 rw [Tryd.ntmps28]
 refine tri_sr ?_
 refine s_mv (.inr rfl) (v := .sc (.int .i64 0)) rfl rfl rfl rfl ?_
 refine rt_nil ?_
 refine tri_seq ?_
 refine tri_sr ?_
 refine s_mv (.inr rfl) (v := .sc (.int .i64 0)) rfl rfl rfl rfl ?_
 refine rt_nil ?_
 refine tri_block ?_
 refine tri_lstM 0 rfl (fun hl0 => ?_)
 refine tri_loop (ι := { p : (List Rec) × Int × Nat // p0.drop p.2.2 = p.1 ∧ w_heldRecordS_l0 p.1 p.2.1 p.2.2 = some r0 }) (fun p => inv_w_heldRecordS_0 p0 p.1.2.1 p.1.2.2) (fun p => p.1.1.length) ⟨(p0, p1, 0), rfl, h⟩ ?_ ?_
 ·skip
  refine entX [] [] trivial trivial rfl rfl ?_
  exact ⟨(.free rfl), (.free rfl), (.free rfl), trivial⟩
 ·rintro ⟨⟨lrs0, v0_0, v0_1⟩, hd0, h⟩
  replace hd0 : p0.drop v0_1 = lrs0 := hd0
  replace h : w_heldRecordS_l0 lrs0 v0_0 v0_1 = some r0 := h
  show Tri _ _ _ (inv_w_heldRecordS_0 p0 v0_0 v0_1)
  refine tri_seq ?_
  refine tri_sr ?_
  refine m1 ?_
  refine m1 ?_
  refine s_lenL rfl sl31 rfl rfl rfl rfl ?_
  refine s_of (st_lss rfl rfl rfl) rfl rfl rfl rfl ?_
  refine rt_nil ?_
  refine tri_cond rfl (fun c1 => ?_) (fun c1 => ?_)
  ·refine drop_elim hd0 c1 fun e0 rs0 he hx0 hn0 => ?_
   subst he
   rw [w_heldRecordS_l0] at h
   refine tri_skip ?_
   refine tri_seq ?_
   refine tri_block ?_
   refine tri_seq ?_
   refine tri_seq ?_
   refine tri_draw mixed ?_
   refine m1 ?_
   refine m1 ?_
   refine s_indexF (i := v0_1) rfl rfl rfl sl31 (get_ltM hx0) rfl rfl rfl ?_
   refine s_fieldAddrF rfl rfl fd62_0 rfl rfl rfl rfl ?_
   refine s_loadF rfl rfl (rowG hx0) ty9 rfl (.inr rfl) (by conv => lhs; whnf) rfl rfl rfl ?_
   refine m1 ?_
   refine bnd1_elim h fun x2 q3 h => ?_
   refine s_callN (kb := []) (ns := []) (v := .sc (.string x2)) rfl rfl cl40 (ww_markText v0_0 x2 q3) rfl (.cons (.free rfl) .nil) trivial memNil .nil memNil rfl trivial memNil rfl rfl rfl rfl rfl rfl ?_
   refine s_of (st_neS rfl rfl rfl) rfl rfl rfl rfl ?_
   refine rt_nil ⟨by kernel_rfl, ?_⟩
   refine tri_cond rfl (fun c4 => ?_) (fun c4 => ?_)
   ·replace h := cond_t h c4
    refine tri_sr ?_
    refine s_mv (.inr rfl) (v := .sc (.int .i64 (-1))) rfl rfl rfl rfl ?_
    refine rt_nil ?_
    refine tri_ret ?_
    have e0 := (some1 h); subst e0
    exact endY [] [] (rvC (resTmp rfl) rvN) trivial trivial rfl rfl rfl rfl (.free rfl)
   ·replace h := cond_f h c4
    refine tri_skip ?_
    refine tri_sr ?_
    refine m1 ?_
    refine grd_elim h fun g5 h => ?_
    refine s_addI rfl rfl rfl rfl g5 rfl rfl rfl ?_
    refine m2 ?_
    refine rt_nil ?_
    refine tri_seq ?_
    refine tri_sr ?_
    refine m1 ?_
    refine m1 ?_
    refine s_indexF (i := v0_1) rfl rfl rfl sl31 (get_ltM hx0) rfl rfl rfl ?_
    refine s_fieldAddrF rfl rfl fd62_1 rfl rfl rfl rfl ?_
    refine s_loadF rfl rfl (rowG hx0) ty3 rfl (.inr rfl) (by conv => lhs; whnf) rfl rfl rfl ?_
    refine m1 ?_
    refine s_of (st_neI rfl rfl rfl) rfl rfl rfl rfl ?_
    refine rt_nil ?_
    refine tri_cond rfl (fun c6 => ?_) (fun c6 => ?_)
    ·replace h := cond_t h c6
     refine tri_sr ?_
     refine s_mv (.inr rfl) (v := .sc (.int .i64 (-1))) rfl rfl rfl rfl ?_
     refine rt_nil ?_
     refine tri_ret ?_
     have e0 := (some1 h); subst e0
     exact endY [] [] (rvC (resTmp rfl) rvN) trivial trivial rfl rfl rfl rfl (.free rfl)
    ·replace h := cond_f h c6
     refine tri_skip ?_
     refine tri_sr ?_
     refine m1 ?_
     refine grd_elim h fun g7 h => ?_
     refine s_addI rfl rfl rfl rfl g7 rfl rfl rfl ?_
     refine m2 ?_
     refine rt_nil ?_
     refine tri_seq ?_
     refine tri_sr ?_
     refine m1 ?_
     refine m1 ?_
     refine s_indexF (i := v0_1) rfl rfl rfl sl31 (get_ltM hx0) rfl rfl rfl ?_
     refine s_fieldAddrF rfl rfl fd62_2 rfl rfl rfl rfl ?_
     refine s_loadF rfl rfl (rowG hx0) ty3 rfl (.inr rfl) (by conv => lhs; whnf) rfl rfl rfl ?_
     refine m1 ?_
     refine s_of (st_neI rfl rfl rfl) rfl rfl rfl rfl ?_
     refine rt_nil ?_
     refine tri_cond rfl (fun c8 => ?_) (fun c8 => ?_)
     ·replace h := cond_t h c8
      refine tri_sr ?_
      refine s_mv (.inr rfl) (v := .sc (.int .i64 (-1))) rfl rfl rfl rfl ?_
      refine rt_nil ?_
      refine tri_ret ?_
      have e0 := (some1 h); subst e0
      exact endY [] [] (rvC (resTmp rfl) rvN) trivial trivial rfl rfl rfl rfl (.free rfl)
     ·replace h := cond_f h c8
      refine tri_skip ?_
      refine tri_sr ?_
      refine m1 ?_
      refine grd_elim h fun g9 h => ?_
      refine s_addI rfl rfl rfl rfl g9 rfl rfl rfl ?_
      refine m2 ?_
      refine rt_nil ?_
      refine tri_seq ?_
      refine tri_sr ?_
      refine m1 ?_
      refine m1 ?_
      refine s_indexF (i := v0_1) rfl rfl rfl sl31 (get_ltM hx0) rfl rfl rfl ?_
      refine s_fieldAddrF rfl rfl fd62_3 rfl rfl rfl rfl ?_
      refine s_loadF rfl rfl (rowG hx0) ty3 rfl (.inr rfl) (by conv => lhs; whnf) rfl rfl rfl ?_
      refine m1 ?_
      refine s_of (st_neI rfl rfl rfl) rfl rfl rfl rfl ?_
      refine rt_nil ?_
      refine tri_cond rfl (fun c10 => ?_) (fun c10 => ?_)
      ·replace h := cond_t h c10
       refine tri_sr ?_
       refine s_mv (.inr rfl) (v := .sc (.int .i64 (-1))) rfl rfl rfl rfl ?_
       refine rt_nil ?_
       refine tri_ret ?_
       have e0 := (some1 h); subst e0
       exact endY [] [] (rvC (resTmp rfl) rvN) trivial trivial rfl rfl rfl rfl (.free rfl)
      ·replace h := cond_f h c10
       refine tri_skip ?_
       refine tri_sr ?_
       refine m1 ?_
       refine grd_elim h fun g11 h => ?_
       refine s_addI rfl rfl rfl rfl g11 rfl rfl rfl ?_
       refine m2 ?_
       refine rt_nil ?_
       refine tri_seq ?_
       refine tri_seq ?_
       refine tri_draw mixed ?_
       refine m1 ?_
       refine m1 ?_
       refine s_indexF (i := v0_1) rfl rfl rfl sl31 (get_ltM hx0) rfl rfl rfl ?_
       refine s_fieldAddrF rfl rfl fd62_4 rfl rfl rfl rfl ?_
       refine s_loadF rfl rfl (rowG hx0) ty9 rfl (.inr rfl) (by conv => lhs; whnf) rfl rfl rfl ?_
       refine m1 ?_
       refine bnd1_elim h fun x12 q13 h => ?_
       refine s_callN (kb := []) (ns := []) (v := .sc (.string x12)) rfl rfl cl40 (ww_markText ((((v0_0 + 1) + 1) + 1) + 1) x12 q13) rfl (.cons (.free rfl) .nil) trivial memNil .nil memNil rfl trivial memNil rfl rfl rfl rfl rfl rfl ?_
       refine s_of (st_neS rfl rfl rfl) rfl rfl rfl rfl ?_
       refine rt_nil ⟨by kernel_rfl, ?_⟩
       refine tri_cond rfl (fun c14 => ?_) (fun c14 => ?_)
       ·replace h := cond_t h c14
        refine tri_sr ?_
        refine s_mv (.inr rfl) (v := .sc (.int .i64 (-1))) rfl rfl rfl rfl ?_
        refine rt_nil ?_
        refine tri_ret ?_
        have e0 := (some1 h); subst e0
        exact endY [] [] (rvC (resTmp rfl) rvN) trivial trivial rfl rfl rfl rfl (.free rfl)
       ·replace h := cond_f h c14
        refine tri_skip ?_
        refine tri_sr ?_
        refine m1 ?_
        refine grd_elim h fun g15 h => ?_
        refine s_addI rfl rfl rfl rfl g15 rfl rfl rfl ?_
        refine m2 ?_
        refine rt_nil ?_
        refine tri_seq ?_
        refine tri_seq ?_
        refine tri_draw mixed ?_
        refine m1 ?_
        refine m1 ?_
        refine s_indexF (i := v0_1) rfl rfl rfl sl31 (get_ltM hx0) rfl rfl rfl ?_
        refine s_fieldAddrF rfl rfl fd62_5 rfl rfl rfl rfl ?_
        refine s_loadF rfl rfl (rowG hx0) ty9 rfl (.inr rfl) (by conv => lhs; whnf) rfl rfl rfl ?_
        refine m1 ?_
        refine bnd1_elim h fun x16 q17 h => ?_
        refine s_callN (kb := []) (ns := []) (v := .sc (.string x16)) rfl rfl cl40 (ww_markText (((((v0_0 + 1) + 1) + 1) + 1) + 1) x16 q17) rfl (.cons (.free rfl) .nil) trivial memNil .nil memNil rfl trivial memNil rfl rfl rfl rfl rfl rfl ?_
        refine s_of (st_neS rfl rfl rfl) rfl rfl rfl rfl ?_
        refine rt_nil ⟨by kernel_rfl, ?_⟩
        refine tri_cond rfl (fun c18 => ?_) (fun c18 => ?_)
        ·replace h := cond_t h c18
         refine tri_sr ?_
         refine s_mv (.inr rfl) (v := .sc (.int .i64 (-1))) rfl rfl rfl rfl ?_
         refine rt_nil ?_
         refine tri_ret ?_
         have e0 := (some1 h); subst e0
         exact endY [] [] (rvC (resTmp rfl) rvN) trivial trivial rfl rfl rfl rfl (.free rfl)
        ·replace h := cond_f h c18
         refine tri_skip ?_
         refine tri_region ?_
         refine m1 ?_
         refine grd_elim h fun g19 h => ?_
         refine s_addI rfl rfl rfl rfl g19 rfl rfl rfl ?_
         refine m2 ?_
         refine rt_nil ?_
         refine tri_region ?_
         refine m1 ?_
         refine s_inc (a := v0_1) (b := 1) rfl rfl rfl rfl (by have := get_lt hx0; have := hl0; omega) rfl rfl rfl ?_
         refine m2 ?_
         refine rt_nil ?_
         refine Exists.intro ⟨(rs0, (((((v0_0 + 1) + 1) + 1) + 1) + 1) + 1, (v0_1 + 1)), hn0, h⟩ (And.intro (Nat.lt_succ_self _) ?_)
         refine entX [] [] trivial trivial rfl rfl ?_
         exact ⟨(.free rfl), (.free rfl), (.free rfl), trivial⟩
  ·have he := drop_f hd0 c1; subst he
   rw [w_heldRecordS_l0] at h
   refine tri_exit ?_
   refine tri_sr ?_
   refine m1 ?_
   refine m2 ?_
   refine rt_nil ?_
   refine tri_ret ?_
   have e0 := (some1 h); subst e0
   exact endY [] [] (rvC (resTmp rfl) rvN) trivial trivial rfl rfl rfl rfl (.free rfl)

/- laws.heldMsg -/

set_option maxRecDepth 4000 in
set_option maxHeartbeats 800000 in
theorem ww_heldMsg (p0 : MMsg) (p1 : Int) (r0 : Int) (h : w_heldMsg p0 p1 = some r0) : Runs Tryd.prog 15 [.agg (mMsgV p0), .sc (.int .i64 p1)] [] (.sc (.int .i64 r0)) [] := by
 unfold w_heldMsg at h
 refine runsR [.tmp 4] Tryd.func15 rfl rfl rfl rfl ?_
 rw [Tryd.ntmps15]
 refine tri_sr ?_
 refine s_box rfl rfl rfl rfl rfl rfl rfl ?_
 refine s_mv (.inr rfl) (v := .sc (.int .i64 0)) rfl rfl rfl rfl ?_
 refine rt_nil ?_
 refine tri_sr ?_
 refine s_fieldAddr rfl rfl fd33_8 rfl rfl rfl rfl ?_
 refine s_load rfl rfl rfl rfl ty31 rfl (.inr rfl) (by conv => lhs; whnf) rfl rfl rfl ?_
 refine m1 ?_
 refine bnd1_elim h fun x1 q2 h => ?_
 refine s_callN (kb := []) (ns := []) (v := .sc (.int .i64 x1)) rfl rfl cl28 (ww_heldRecordS p0.an p1 x1 q2) rfl (.cons (.free rfl) (.cons (.free rfl) .nil)) trivial memNil .nil memNil rfl trivial memNil rfl rfl rfl rfl rfl rfl ?_
 refine m2 ?_
 refine rt_nil ?_
 refine tri_seq ?_
 refine tri_sr ?_
 refine m1 ?_
 refine s_of (st_lss rfl rfl rfl) rfl rfl rfl rfl ?_
 refine rt_nil ?_
 refine tri_cond rfl (fun c3 => ?_) (fun c3 => ?_)
 ·replace h := cond_t h c3
  refine tri_sr ?_
  refine s_mv (.inr rfl) (v := .sc (.int .i64 (-1))) rfl rfl rfl rfl ?_
  refine rt_nil ?_
  refine tri_ret ?_
  have e0 := (some1 h); subst e0
  exact endY [] [] (rvC (resTmp rfl) rvN) trivial trivial rfl rfl rfl rfl (.free rfl)
 ·replace h := cond_f h c3
  refine tri_skip ?_
  refine tri_sr ?_
  refine s_fieldAddr rfl rfl fd33_9 rfl rfl rfl rfl ?_
  refine s_load rfl rfl rfl rfl ty31 rfl (.inr rfl) (by conv => lhs; whnf) rfl rfl rfl ?_
  refine m1 ?_
  refine bnd1_elim h fun x4 q5 h => ?_
  refine s_callN (kb := []) (ns := []) (v := .sc (.int .i64 x4)) rfl rfl cl28 (ww_heldRecordS p0.au x1 x4 q5) rfl (.cons (.free rfl) (.cons (.free rfl) .nil)) trivial memNil .nil memNil rfl trivial memNil rfl rfl rfl rfl rfl rfl ?_
  refine m2 ?_
  refine rt_nil ?_
  refine tri_seq ?_
  refine tri_sr ?_
  refine m1 ?_
  refine s_of (st_lss rfl rfl rfl) rfl rfl rfl rfl ?_
  refine rt_nil ?_
  refine tri_cond rfl (fun c6 => ?_) (fun c6 => ?_)
  ·replace h := cond_t h c6
   refine tri_sr ?_
   refine s_mv (.inr rfl) (v := .sc (.int .i64 (-1))) rfl rfl rfl rfl ?_
   refine rt_nil ?_
   refine tri_ret ?_
   have e0 := (some1 h); subst e0
   exact endY [] [] (rvC (resTmp rfl) rvN) trivial trivial rfl rfl rfl rfl (.free rfl)
  ·replace h := cond_f h c6
   refine tri_skip ?_
   refine tri_sr ?_
   refine s_fieldAddr rfl rfl fd33_10 rfl rfl rfl rfl ?_
   refine s_load rfl rfl rfl rfl ty31 rfl (.inr rfl) (by conv => lhs; whnf) rfl rfl rfl ?_
   refine m1 ?_
   refine bnd1_elim h fun x7 q8 h => ?_
   refine s_callN (kb := []) (ns := []) (v := .sc (.int .i64 x7)) rfl rfl cl28 (ww_heldRecordS p0.ad x4 x7 q8) rfl (.cons (.free rfl) (.cons (.free rfl) .nil)) trivial memNil .nil memNil rfl trivial memNil rfl rfl rfl rfl rfl rfl ?_
   refine m2 ?_
   refine rt_nil ?_
   refine tri_seq ?_
   refine tri_sr ?_
   refine m1 ?_
   refine s_of (st_lss rfl rfl rfl) rfl rfl rfl rfl ?_
   refine rt_nil ?_
   refine tri_cond rfl (fun c9 => ?_) (fun c9 => ?_)
   ·replace h := cond_t h c9
    refine tri_sr ?_
    refine s_mv (.inr rfl) (v := .sc (.int .i64 (-1))) rfl rfl rfl rfl ?_
    refine rt_nil ?_
    refine tri_ret ?_
    have e0 := (some1 h); subst e0
    exact endY [] [] (rvC (resTmp rfl) rvN) trivial trivial rfl rfl rfl rfl (.free rfl)
   ·replace h := cond_f h c9
    refine tri_skip ?_
    refine tri_sr ?_
    refine m1 ?_
    refine m2 ?_
    refine rt_nil ?_
    refine tri_ret ?_
    have e0 := (some1 h); subst e0
    exact endY [] [] (rvC (resTmp rfl) rvN) trivial trivial rfl rfl rfl rfl (.free rfl)

end Go.Abs.M
