/- Walks of the functions that the law of GetMsg reaches: what each of them computes, where its pure function does not fail. -/
import Derived.Test.YtainnoaellcpdaaDoorWalkGetMsg0
set_option linter.unusedSimpArgs false
set_option linter.unusedVariables false
namespace Go.Abs.M
open Go Go.Abs Go.Proofs
theorem cl20 : callable Tryd.prog 20 = true := by kernel_rfl
theorem cl22 : callable Tryd.prog 22 = true := by kernel_rfl
theorem cl23 : callable Tryd.prog 23 = true := by kernel_rfl
theorem cl32 : callable Tryd.prog 32 = true := by kernel_rfl
theorem cl33 : callable Tryd.prog 33 = true := by kernel_rfl
theorem cl34 : callable Tryd.prog 34 = true := by kernel_rfl
theorem cl35 : callable Tryd.prog 35 = true := by kernel_rfl
theorem cl37 : callable Tryd.prog 37 = true := by kernel_rfl
theorem cl44 : callable Tryd.prog 44 = true := by kernel_rfl
theorem cl45 : callable Tryd.prog 45 = true := by kernel_rfl
theorem cl46 : callable Tryd.prog 46 = true := by kernel_rfl
theorem cl47 : callable Tryd.prog 47 = true := by kernel_rfl
theorem cl48 : callable Tryd.prog 48 = true := by kernel_rfl
theorem cl49 : callable Tryd.prog 49 = true := by kernel_rfl
theorem cl5 : callable Tryd.prog 5 = true := by kernel_rfl
theorem cl50 : callable Tryd.prog 50 = true := by kernel_rfl
theorem cl52 : callable Tryd.prog 52 = true := by kernel_rfl
theorem cl53 : callable Tryd.prog 53 = true := by kernel_rfl
theorem cl59 : callable Tryd.prog 59 = true := by kernel_rfl
theorem cl60 : callable Tryd.prog 60 = true := by kernel_rfl
theorem cl61 : callable Tryd.prog 61 = true := by kernel_rfl
theorem cl62 : callable Tryd.prog 62 = true := by kernel_rfl
theorem cl70 : callable Tryd.prog 70 = true := by kernel_rfl
theorem cl74 : callable Tryd.prog 74 = true := by kernel_rfl
theorem cl75 : callable Tryd.prog 75 = true := by kernel_rfl
theorem cl81 : callable Tryd.prog 81 = true := by kernel_rfl
theorem cl83 : callable Tryd.prog 83 = true := by kernel_rfl
theorem fd33_0 : fldTy Tryd.prog 33 0 = some (0, 0 + 1, false) := by kernel_rfl
theorem fd33_10 : fldTy Tryd.prog 33 10 = some (11, 0 + 1, false) := by kernel_rfl
theorem fd33_7 : fldTy Tryd.prog 33 7 = some (7, 1 + 1, true) := by kernel_rfl
theorem fd33_8 : fldTy Tryd.prog 33 8 = some (9, 0 + 1, false) := by kernel_rfl
theorem fd33_9 : fldTy Tryd.prog 33 9 = some (10, 0 + 1, false) := by kernel_rfl
theorem sl31 : slTy Tryd.prog 31 = some (62, 6, 72) := by kernel_rfl
theorem ty31 : tyK Tryd.prog 31 = some (false, 1) := by kernel_rfl
/- spec.GetRecord -/
def inv_s_GetRecord_0 (x1 : ByteArray) (x2 : Int) (x16 : Int) (x20 : Int) (x24 : Rec) (j0_0 : Bool) : St := mkT 99 [(4, .ptr (4, 0) 0 0), (7, .ptr (7, 0) 0 0), (9, .sc (.int .i64 x2)), (17, .sc (.int .i64 x20)), (19, .ptr (19, 0) 0 0), (92, .sc (.bool j0_0))] [((4, 0), some ⟨62, 6, [[.sc (.string (⟨#[]⟩ : ByteArray)), .sc (.int .i64 0), .sc (.int .i64 0), .sc (.int .i64 0), .sc (.string (⟨#[]⟩ : ByteArray)), .sc (.string (⟨#[]⟩ : ByteArray))]], false, true⟩), ((7, 0), some ⟨62, 6, [[.sc (.string (⟨#[]⟩ : ByteArray)), .sc (.int .i64 0), .sc (.int .i64 0), .sc (.int .i64 0), .sc (.string (⟨#[]⟩ : ByteArray)), .sc (.string (⟨#[]⟩ : ByteArray))]], false, true⟩), ((19, 0), some ⟨62, 6, [[.sc (.string x1), .sc (.int .i64 x24.ty), .sc (.int .i64 x16), .sc (.int .i64 x24.n), .sc (.string x24.host), .sc (.string x24.text)]], false, true⟩)]
set_option maxRecDepth 4000 in
set_option maxHeartbeats 800000 in
theorem ws_GetRecord (p0 : List Int) (p1 : Int) (r0 : Rec) (r1 : Int) (r2 : Int) (h : s_GetRecord p0 p1 = some (r0, r1, r2)) : Runs Tryd.prog 37 [.lst 1 (List.map byteV p0), .sc (.int .i64 p1)] [] (.tup [.agg (recV r0), .sc (.int .i64 r1), .sc (.int .i64 r2)]) [] := by
 unfold s_GetRecord at h
 refine runsR [.cell 4 62, .tmp 5, .tmp 6] Tryd.func37 rfl rfl rfl rfl ?_
 rw [Tryd.ntmps37]
 refine tri_sr ?_
 refine s_alloc rfl rfl rfl zc62 rfl rfl rfl rfl rfl ?_
 refine s_mv (.inr rfl) (v := .sc (.int .i64 0)) rfl rfl rfl rfl ?_
 refine s_mv (.inr rfl) (v := .sc (.int .i64 0)) rfl rfl rfl rfl ?_
 refine rt_nil ?_
 refine tri_sr ?_
 refine s_build (cells' := [.sc (.string (⟨#[]⟩ : ByteArray)), .sc (.int .i64 0), .sc (.int .i64 0), .sc (.int .i64 0), .sc (.string (⟨#[]⟩ : ByteArray)), .sc (.string (⟨#[]⟩ : ByteArray))]) rfl stc62 rfl rfl rfl rfl rfl rfl rfl ?_
 refine s_alloc rfl rfl rfl zc62 rfl rfl rfl rfl rfl ?_
 refine s_storeB rfl rfl rfl ty62 rfl rfl rfl rfl rfl ?_
 refine rt_nil ?_
 refine tri_sr ?_
 refine m1 ?_
 refine m1 ?_
 refine bnd3_elim h fun x1 x2 x3 q4 h => ?_
 refine s_callN (kb := []) (ns := []) (v := .tup [.sc (.string x1), .sc (.int .i64 x2), .sc (.int .i64 x3)]) rfl rfl cl16 (ws_GetName p0 p1 x1 x2 x3 q4) rfl (.cons (.free rfl) (.cons (.free rfl) .nil)) trivial memNil .nil memNil rfl trivial memNil rfl rfl rfl rfl rfl rfl ?_
 refine m1 ?_
 refine s_extract rfl rfl rfl rfl rfl rfl ?_
 refine s_extract rfl rfl rfl rfl rfl rfl ?_
 refine s_extract rfl rfl rfl rfl rfl rfl ?_
 refine m2 ?_
 refine m2 ?_
 refine m2 ?_
 refine rt_nil ?_
 refine tri_seq ?_
 refine tri_sr ?_
 refine m1 ?_
 refine s_of (st_neI rfl rfl rfl) rfl rfl rfl rfl ?_
 refine rt_nil ?_
 refine tri_cond rfl (fun c5 => ?_) (fun c5 => ?_)
 ·replace h := cond_t h c5
  refine tri_sr ?_
  refine s_loadR rfl rfl rfl rfl ty62 rfl rfl rfl ?_
  refine m1 ?_
  refine s_storeB rfl rfl rfl ty62 rfl rfl rfl rfl rfl ?_
  refine s_mv (.inr rfl) (v := .sc (.int .i64 0)) rfl rfl rfl rfl ?_
  refine m2 ?_
  refine rt_nil ?_
  refine tri_ret ?_
  have e0 := (some3 h).1; have e1 := (some3 h).2.1; have e2 := (some3 h).2.2; subst e0; subst e1; subst e2
  exact endY [] [] (rvC (resCell rfl rfl ty62) (rvC (resTmp rfl) (rvC (resTmp rfl) rvN))) trivial trivial rfl rfl rfl rfl (CvL.tup (.cons (cvAgg rfl) (.cons (.free rfl) (.cons (.free rfl) .nil))))
 ·replace h := cond_f h c5
  refine tri_skip ?_
  refine tri_seq ?_
  refine tri_sr ?_
  refine m1 ?_
  refine m1 ?_
  refine s_lenL rfl sl22 rfl rfl rfl rfl ?_
  refine grd_elim h fun g6 h => ?_
  refine s_subI rfl rfl rfl rfl g6 rfl rfl rfl ?_
  refine s_of (st_gtr rfl rfl rfl) rfl rfl rfl rfl ?_
  refine rt_nil ?_
  refine tri_cond rfl (fun c7 => ?_) (fun c7 => ?_)
  ·replace h := cond_t h c7
   refine tri_sr ?_
   refine s_loadR rfl rfl rfl rfl ty62 rfl rfl rfl ?_
   refine s_storeB rfl rfl rfl ty62 rfl rfl rfl rfl rfl ?_
   refine s_mv (.inr rfl) (v := .sc (.int .i64 0)) rfl rfl rfl rfl ?_
   refine s_mv (.inr rfl) (v := .sc (.int .i64 1)) rfl rfl rfl rfl ?_
   refine rt_nil ?_
   refine tri_ret ?_
   have e0 := (some3 h).1; have e1 := (some3 h).2.1; have e2 := (some3 h).2.2; subst e0; subst e1; subst e2
   exact endY [] [] (rvC (resCell rfl rfl ty62) (rvC (resTmp rfl) (rvC (resTmp rfl) rvN))) trivial trivial rfl rfl rfl rfl (CvL.tup (.cons (cvAgg rfl) (.cons (.free rfl) (.cons (.free rfl) .nil))))
  ·replace h := cond_f h c7
   refine tri_skip ?_
   refine tri_sr ?_
   refine m1 ?_
   refine m1 ?_
   refine bnd2_elim h fun x8 x9 q10 h => ?_
   refine s_callN (kb := []) (ns := []) (v := .tup [.sc (.int .i64 x8), .sc (.bool x9)]) rfl rfl cl17 (ws_Get2 p0 x2 x8 x9 q10) rfl (.cons (.free rfl) (.cons (.free rfl) .nil)) trivial memNil .nil memNil rfl trivial memNil rfl rfl rfl rfl rfl rfl ?_
   refine m1 ?_
   refine s_extract rfl rfl rfl rfl rfl rfl ?_
   refine s_extract rfl rfl rfl rfl rfl rfl ?_
   refine m2 ?_
   refine m2 ?_
   refine rt_nil ?_
   refine tri_sr ?_
   refine m1 ?_
   refine m1 ?_
   refine grd_elim h fun g11 h => ?_
   refine s_addI rfl rfl rfl rfl g11 rfl rfl rfl ?_
   refine bnd2_elim h fun x12 x13 q14 h => ?_
   refine s_callN (kb := []) (ns := []) (v := .tup [.sc (.int .i64 x12), .sc (.bool x13)]) rfl rfl cl17 (ws_Get2 p0 (x2 + 2) x12 x13 q14) rfl (.cons (.free rfl) (.cons (.free rfl) .nil)) trivial memNil .nil memNil rfl trivial memNil rfl rfl rfl rfl rfl rfl ?_
   refine m1 ?_
   refine s_extract rfl rfl rfl rfl rfl rfl ?_
   refine s_extract rfl rfl rfl rfl rfl rfl ?_
   refine m2 ?_
   refine m2 ?_
   refine rt_nil ?_
   refine tri_sr ?_
   refine m1 ?_
   refine m1 ?_
   refine grd_elim h fun g15 h => ?_
   refine s_addI rfl rfl rfl rfl g15 rfl rfl rfl ?_
   refine bnd2_elim h fun x16 x17 q18 h => ?_
   refine s_callN (kb := []) (ns := []) (v := .tup [.sc (.int .i64 x16), .sc (.bool x17)]) rfl rfl cl51 (ws_Get4 p0 (x2 + 4) x16 x17 q18) rfl (.cons (.free rfl) (.cons (.free rfl) .nil)) trivial memNil .nil memNil rfl trivial memNil rfl rfl rfl rfl rfl rfl ?_
   refine m1 ?_
   refine s_extract rfl rfl rfl rfl rfl rfl ?_
   refine s_extract rfl rfl rfl rfl rfl rfl ?_
   refine m2 ?_
   refine m2 ?_
   refine rt_nil ?_
   refine tri_sr ?_
   refine m1 ?_
   refine m1 ?_
   refine grd_elim h fun g19 h => ?_
   refine s_addI rfl rfl rfl rfl g19 rfl rfl rfl ?_
   refine bnd2_elim h fun x20 x21 q22 h => ?_
   refine s_callN (kb := []) (ns := []) (v := .tup [.sc (.int .i64 x20), .sc (.bool x21)]) rfl rfl cl17 (ws_Get2 p0 (x2 + 8) x20 x21 q22) rfl (.cons (.free rfl) (.cons (.free rfl) .nil)) trivial memNil .nil memNil rfl trivial memNil rfl rfl rfl rfl rfl rfl ?_
   refine m1 ?_
   refine s_extract rfl rfl rfl rfl rfl rfl ?_
   refine s_extract rfl rfl rfl rfl rfl rfl ?_
   refine m2 ?_
   refine m2 ?_
   refine rt_nil ?_
   refine tri_sr ?_
   refine m1 ?_
   refine m1 ?_
   refine grd_elim h fun g23 h => ?_
   refine s_addI rfl rfl rfl rfl g23 rfl rfl rfl ?_
   refine m1 ?_
   refine m1 ?_
   refine bnd2_elim h fun x24 x25 q26 h => ?_
   refine s_callN (kb := []) (ns := []) (v := .tup [.agg (recV x24), .sc (.int .i64 x25)]) rfl rfl cl52 (ws_GetData p0 (x2 + 10) x20 x8 x24 x25 q26) rfl (.cons (.free rfl) (.cons (.free rfl) (.cons (.free rfl) (.cons (.free rfl) .nil)))) trivial memNil .nil memNil rfl trivial memNil rfl rfl rfl rfl rfl rfl ?_
   refine m1 ?_
   refine s_extract rfl rfl rfl rfl rfl rfl ?_
   refine s_extract rfl rfl rfl rfl rfl rfl ?_
   refine s_alloc rfl rfl rfl zc62 rfl rfl rfl rfl rfl ?_
   refine s_storeB rfl rfl rfl ty62 rfl rfl rfl rfl rfl ?_
   refine m2 ?_
   refine rt_nil ?_
   refine tri_seq ?_
   refine tri_sr ?_
   refine m1 ?_
   refine s_of (st_neI rfl rfl rfl) rfl rfl rfl rfl ?_
   refine rt_nil ?_
   refine tri_cond rfl (fun c27 => ?_) (fun c27 => ?_)
   ·replace h := cond_t h c27
    refine tri_sr ?_
    refine s_loadR rfl rfl rfl rfl ty62 rfl rfl rfl ?_
    refine m1 ?_
    refine s_storeB rfl rfl rfl ty62 rfl rfl rfl rfl rfl ?_
    refine s_mv (.inr rfl) (v := .sc (.int .i64 0)) rfl rfl rfl rfl ?_
    refine m2 ?_
    refine rt_nil ?_
    refine tri_ret ?_
    have e0 := (some3 h).1; have e1 := (some3 h).2.1; have e2 := (some3 h).2.2; subst e0; subst e1; subst e2
    exact endY [] [] (rvC (resCell rfl rfl ty62) (rvC (resTmp rfl) (rvC (resTmp rfl) rvN))) trivial trivial rfl rfl rfl rfl (CvL.tup (.cons (cvAgg rfl) (.cons (.free rfl) (.cons (.free rfl) .nil))))
   ·replace h := cond_f h c27
    refine tri_skip ?_
    refine tri_sr ?_
    refine m1 ?_
    refine s_fieldAddr rfl rfl fd62_0 rfl rfl rfl rfl ?_
    refine s_store (rows' := [[.sc (.string x1), .sc (.int .i64 x24.ty), .sc (.int .i64 x24.ttl), .sc (.int .i64 x24.n), .sc (.string x24.host), .sc (.string x24.text)]]) rfl rfl rfl rfl ty9 rfl rfl rfl rfl rfl rfl ?_
    refine rt_nil ?_
    refine tri_sr ?_
    refine m1 ?_
    refine s_fieldAddr rfl rfl fd62_2 rfl rfl rfl rfl ?_
    refine s_store (rows' := [[.sc (.string x1), .sc (.int .i64 x24.ty), .sc (.int .i64 x16), .sc (.int .i64 x24.n), .sc (.string x24.host), .sc (.string x24.text)]]) rfl rfl rfl rfl ty3 rfl rfl rfl rfl rfl rfl ?_
    refine rt_nil ?_
    refine tri_seq ?_
    refine tri_cutI (ι := { p : Bool // s_GetRecord_j0 x1 x2 x16 x20 x24 p = some (r0, r1, r2) }) (fun p => inv_s_GetRecord_0 x1 x2 x16 x20 x24 p.1) ?_ ?_
    ·skip
     refine tri_region ?_
     refine m1 ?_
     refine s_of (st_not rfl rfl) rfl rfl rfl rfl ?_
     refine m1 ?_
     refine s_split (t := 84) rfl (fun b28 => ?_) (fun b28 => ?_)
     ·replace h := cond_t h b28
      refine s_skip rfl rfl rfl ?_
      refine s_skip rfl rfl rfl ?_
      refine s_pickT rfl rfl (v := .sc (.bool true)) rfl rfl rfl rfl ?_
      refine m1 ?_
      refine s_skip rfl rfl rfl ?_
      refine s_skip rfl rfl rfl ?_
      refine s_skip rfl rfl rfl ?_
      refine s_pickT rfl rfl (v := .sc (.bool true)) rfl rfl rfl rfl ?_
      refine rt_nil ?_
      refine Exists.intro ⟨true, h⟩ ?_
      refine entX [((4, 0), ⟨62, 6, [[.sc (.string (⟨#[]⟩ : ByteArray)), .sc (.int .i64 0), .sc (.int .i64 0), .sc (.int .i64 0), .sc (.string (⟨#[]⟩ : ByteArray)), .sc (.string (⟨#[]⟩ : ByteArray))]], false, true⟩, some (4, 0)), ((7, 0), ⟨62, 6, [[.sc (.string (⟨#[]⟩ : ByteArray)), .sc (.int .i64 0), .sc (.int .i64 0), .sc (.int .i64 0), .sc (.string (⟨#[]⟩ : ByteArray)), .sc (.string (⟨#[]⟩ : ByteArray))]], false, true⟩, some (7, 0)), ((19, 0), ⟨62, 6, [[.sc (.string x1), .sc (.int .i64 x24.ty), .sc (.int .i64 x16), .sc (.int .i64 x24.n), .sc (.string x24.host), .sc (.string x24.text)]], false, true⟩, some (19, 0))] [] ⟨⟨rfl, _, rfl, rfl, rfl, rfl, id, rowsCv_one (.cons (.free rfl) (.cons (.free rfl) (.cons (.free rfl) (.cons (.free rfl) (.cons (.free rfl) (.cons (.free rfl) .nil)))))), rowsZ_one rfl⟩, ⟨rfl, _, rfl, rfl, rfl, rfl, id, rowsCv_one (.cons (.free rfl) (.cons (.free rfl) (.cons (.free rfl) (.cons (.free rfl) (.cons (.free rfl) (.cons (.free rfl) .nil)))))), rowsZ_one rfl⟩, ⟨rfl, _, rfl, rfl, rfl, rfl, id, rowsCv_one (.cons (.free rfl) (.cons (.free rfl) (.cons (.free rfl) (.cons (.free rfl) (.cons (.free rfl) (.cons (.free rfl) .nil)))))), rowsZ_one rfl⟩, trivial⟩ trivial rfl rfl ?_
      exact ⟨(.ptr rfl), (.ptr rfl), (.free rfl), (.free rfl), (.ptr rfl), (.free rfl), trivial⟩
     ·replace h := cond_f h b28
      refine m1 ?_
      refine s_of (st_neI rfl rfl rfl) rfl rfl rfl rfl ?_
      refine s_pickF rfl rfl (by conv => lhs; whnf) rfl rfl rfl ?_
      refine m1 ?_
      refine s_split (t := 88) rfl (fun b29 => ?_) (fun b29 => ?_)
      ·replace h := cond_t h b29
       refine s_skip rfl rfl rfl ?_
       refine s_skip rfl rfl rfl ?_
       refine s_skip rfl rfl rfl ?_
       refine s_pickT rfl rfl (v := .sc (.bool true)) rfl rfl rfl rfl ?_
       refine rt_nil ?_
       refine Exists.intro ⟨true, h⟩ ?_
       refine entX [((4, 0), ⟨62, 6, [[.sc (.string (⟨#[]⟩ : ByteArray)), .sc (.int .i64 0), .sc (.int .i64 0), .sc (.int .i64 0), .sc (.string (⟨#[]⟩ : ByteArray)), .sc (.string (⟨#[]⟩ : ByteArray))]], false, true⟩, some (4, 0)), ((7, 0), ⟨62, 6, [[.sc (.string (⟨#[]⟩ : ByteArray)), .sc (.int .i64 0), .sc (.int .i64 0), .sc (.int .i64 0), .sc (.string (⟨#[]⟩ : ByteArray)), .sc (.string (⟨#[]⟩ : ByteArray))]], false, true⟩, some (7, 0)), ((19, 0), ⟨62, 6, [[.sc (.string x1), .sc (.int .i64 x24.ty), .sc (.int .i64 x16), .sc (.int .i64 x24.n), .sc (.string x24.host), .sc (.string x24.text)]], false, true⟩, some (19, 0))] [] ⟨⟨rfl, _, rfl, rfl, rfl, rfl, id, rowsCv_one (.cons (.free rfl) (.cons (.free rfl) (.cons (.free rfl) (.cons (.free rfl) (.cons (.free rfl) (.cons (.free rfl) .nil)))))), rowsZ_one rfl⟩, ⟨rfl, _, rfl, rfl, rfl, rfl, id, rowsCv_one (.cons (.free rfl) (.cons (.free rfl) (.cons (.free rfl) (.cons (.free rfl) (.cons (.free rfl) (.cons (.free rfl) .nil)))))), rowsZ_one rfl⟩, ⟨rfl, _, rfl, rfl, rfl, rfl, id, rowsCv_one (.cons (.free rfl) (.cons (.free rfl) (.cons (.free rfl) (.cons (.free rfl) (.cons (.free rfl) (.cons (.free rfl) .nil)))))), rowsZ_one rfl⟩, trivial⟩ trivial rfl rfl ?_
       exact ⟨(.ptr rfl), (.ptr rfl), (.free rfl), (.free rfl), (.ptr rfl), (.free rfl), trivial⟩
      ·replace h := cond_f h b29
       refine s_loadR rfl rfl rfl rfl ty62 rfl rfl rfl ?_
       refine bnd1_elim h fun x30 q31 h => ?_
       refine s_callN (kb := []) (ns := []) (v := .sc (.bool x30)) rfl rfl cl53 (ws_RecordOk (Rec.mk x1 x24.ty x16 x24.n x24.host x24.text) x30 q31) rfl (.cons (relAgg rfl) .nil) trivial memNil .nil memNil rfl trivial memNil rfl rfl rfl rfl rfl rfl ?_
       refine s_of (st_not rfl rfl) rfl rfl rfl rfl ?_
       refine s_pickF rfl rfl (by conv => lhs; whnf) rfl rfl rfl ?_
       refine rt_nil ?_
       refine Exists.intro ⟨!x30, h⟩ ?_
       refine entX [((4, 0), ⟨62, 6, [[.sc (.string (⟨#[]⟩ : ByteArray)), .sc (.int .i64 0), .sc (.int .i64 0), .sc (.int .i64 0), .sc (.string (⟨#[]⟩ : ByteArray)), .sc (.string (⟨#[]⟩ : ByteArray))]], false, true⟩, some (4, 0)), ((7, 0), ⟨62, 6, [[.sc (.string (⟨#[]⟩ : ByteArray)), .sc (.int .i64 0), .sc (.int .i64 0), .sc (.int .i64 0), .sc (.string (⟨#[]⟩ : ByteArray)), .sc (.string (⟨#[]⟩ : ByteArray))]], false, true⟩, some (7, 0)), ((19, 0), ⟨62, 6, [[.sc (.string x1), .sc (.int .i64 x24.ty), .sc (.int .i64 x16), .sc (.int .i64 x24.n), .sc (.string x24.host), .sc (.string x24.text)]], false, true⟩, some (19, 0))] [] ⟨⟨rfl, _, rfl, rfl, rfl, rfl, id, rowsCv_one (.cons (.free rfl) (.cons (.free rfl) (.cons (.free rfl) (.cons (.free rfl) (.cons (.free rfl) (.cons (.free rfl) .nil)))))), rowsZ_one rfl⟩, ⟨rfl, _, rfl, rfl, rfl, rfl, id, rowsCv_one (.cons (.free rfl) (.cons (.free rfl) (.cons (.free rfl) (.cons (.free rfl) (.cons (.free rfl) (.cons (.free rfl) .nil)))))), rowsZ_one rfl⟩, ⟨rfl, _, rfl, rfl, rfl, rfl, id, rowsCv_one (.cons (.free rfl) (.cons (.free rfl) (.cons (.free rfl) (.cons (.free rfl) (.cons (.free rfl) (.cons (.free rfl) .nil)))))), rowsZ_one rfl⟩, trivial⟩ trivial rfl rfl ?_
       exact ⟨(.ptr rfl), (.ptr rfl), (.free rfl), (.free rfl), (.ptr rfl), (.free rfl), trivial⟩
    ·rintro ⟨j0_0, h⟩
     replace h : s_GetRecord_j0 x1 x2 x16 x20 x24 j0_0 = some (r0, r1, r2) := h
     unfold s_GetRecord_j0 at h
     show Tri _ _ _ (inv_s_GetRecord_0 x1 x2 x16 x20 x24 j0_0)
     refine tri_cond rfl (fun c28 => ?_) (fun c28 => ?_)
     ·replace h := cond_t h c28
      refine tri_sr ?_
      refine s_loadR rfl rfl rfl rfl ty62 rfl rfl rfl ?_
      refine s_storeB rfl rfl rfl ty62 rfl rfl rfl rfl rfl ?_
      refine s_mv (.inr rfl) (v := .sc (.int .i64 0)) rfl rfl rfl rfl ?_
      refine s_mv (.inr rfl) (v := .sc (.int .i64 2)) rfl rfl rfl rfl ?_
      refine rt_nil ?_
      refine tri_ret ?_
      have e0 := (some3 h).1; have e1 := (some3 h).2.1; have e2 := (some3 h).2.2; subst e0; subst e1; subst e2
      exact endY [] [] (rvC (resCell rfl rfl ty62) (rvC (resTmp rfl) (rvC (resTmp rfl) rvN))) trivial trivial rfl rfl rfl rfl (CvL.tup (.cons (cvAgg rfl) (.cons (.free rfl) (.cons (.free rfl) .nil))))
     ·replace h := cond_f h c28
      refine tri_skip ?_
      refine tri_sr ?_
      refine s_loadR rfl rfl rfl rfl ty62 rfl rfl rfl ?_
      refine m1 ?_
      refine grd_elim h fun g29 h => ?_
      refine s_addI rfl rfl rfl rfl g29 rfl rfl rfl ?_
      refine m1 ?_
      refine grd_elim h fun g30 h => ?_
      refine s_addI rfl rfl rfl rfl g30 rfl rfl rfl ?_
      refine s_storeB rfl rfl rfl ty62 rfl rfl rfl rfl rfl ?_
      refine m2 ?_
      refine s_mv (.inr rfl) (v := .sc (.int .i64 0)) rfl rfl rfl rfl ?_
      refine rt_nil ?_
      refine tri_ret ?_
      have e0 := (some3 h).1; have e1 := (some3 h).2.1; have e2 := (some3 h).2.2; subst e0; subst e1; subst e2
      exact endY [] [] (rvC (resCell rfl rfl ty62) (rvC (resTmp rfl) (rvC (resTmp rfl) rvN))) trivial trivial rfl rfl rfl rfl (CvL.tup (.cons (cvAgg rfl) (.cons (.free rfl) (.cons (.free rfl) .nil))))

/- spec.GetRecords -/
def inv_s_GetRecords_0 (p0 : List Int) (p2 : Int) (v0_0 : Int) (v0_1 : List Rec) (v0_2 : Int) : St := mkT 42 [(0, .lst 1 (List.map byteV p0)), (1, .sc (.int .i64 v0_0)), (2, .sc (.int .i64 p2)), (9, .ref (2009, 0) 0 v0_1.length), (10, .sc (.int .i64 v0_2))] [((2009, 0), some ⟨62, 6, List.map recV v0_1, false, true⟩)]
set_option maxRecDepth 4000 in
set_option maxHeartbeats 800000 in
theorem ws_GetRecords (p0 : List Int) (p1 : Int) (p2 : Int) (r0 : List Rec) (r1 : Int) (r2 : Int) (h : s_GetRecords p0 p1 p2 = some (r0, r1, r2)) : Runs Tryd.prog 23 [.lst 1 (List.map byteV p0), .sc (.int .i64 p1), .sc (.int .i64 p2)] [] (.tup [.own 62 6 (List.map recV r0), .sc (.int .i64 r1), .sc (.int .i64 r2)]) [] := by
 unfold s_GetRecords at h
 refine runsR [.tmp 6, .tmp 7, .tmp 8] Tryd.func23 rfl rfl rfl rfl ?_
 rw [Tryd.ntmps23]
 refine tri_sr ?_
 refine s_mv (.inr rfl) (v := .nils) rfl rfl rfl rfl ?_
 refine s_mv (.inr rfl) (v := .sc (.int .i64 0)) rfl rfl rfl rfl ?_
 refine s_mv (.inr rfl) (v := .sc (.int .i64 0)) rfl rfl rfl rfl ?_
 refine rt_nil ?_
 refine tri_sr ?_
 refine s_buildSlice (rows' := List.map recV ([] : List Rec)) rfl rfl rfl sl31 zc62 rfl rfl rfl rfl rfl rfl rfl rfl rfl ?_
 refine m2 ?_
 refine rt_nil ?_
 refine tri_seq ?_
 refine tri_sr ?_
 refine m1 ?_
 refine bnd1_elim h fun x1 q2 h => ?_
 refine s_callN (kb := []) (ns := []) (v := .sc (.bool x1)) rfl rfl cl36 (ws_l1In p2 0 8 x1 q2) rfl (.cons (.free rfl) (.cons (.free rfl) (.cons (.free rfl) .nil))) trivial memNil .nil memNil rfl trivial memNil rfl rfl rfl rfl rfl rfl ?_
 refine s_of (st_not rfl rfl) rfl rfl rfl rfl ?_
 refine rt_nil ?_
 refine tri_cond rfl (fun c3 => ?_) (fun c3 => ?_)
 ·replace h := cond_t h c3
  refine tri_sr ?_
  refine m1 ?_
  refine m2 ?_
  refine s_mv (.inr rfl) (v := .sc (.int .i64 0)) rfl rfl rfl rfl ?_
  refine s_mv (.inr rfl) (v := .sc (.int .i64 2)) rfl rfl rfl rfl ?_
  refine rt_nil ?_
  refine tri_ret ?_
  have e0 := (some3 h).1; have e1 := (some3 h).2.1; have e2 := (some3 h).2.2; subst e0; subst e1; subst e2
  exact endY (v' := .tup [.ref (2000, 100) 0 (([] : List Rec).length), .sc (.int .i64 0), .sc (.int .i64 2)]) [((2000, 100), ⟨62, 6, List.map recV ([] : List Rec), false, true⟩, some (14, 0))] [] (rvC (resTmp rfl) (rvC (resTmp rfl) (rvC (resTmp rfl) rvN))) ⟨⟨rfl, _, rfl, rfl, rfl, rfl, id, rowsCv_eq rfl (allFree_map recV_free), rowsZ_map recV_len⟩, trivial⟩ trivial rfl rfl (by kernel_rfl) (by simp only [V.mat, V.mat1, V.mat0, matL, matT, List.length_map] <;> rfl) (CvL.tup (.cons (.ref rfl) (.cons (.free rfl) (.cons (.free rfl) .nil))))
 ·replace h := cond_f h c3
  refine tri_skip ?_
  refine tri_seq ?_
  refine tri_sr ?_
  refine s_mv (.inr rfl) (v := .sc (.int .i64 0)) rfl rfl rfl rfl ?_
  refine rt_nil ?_
  refine tri_block ?_
  refine tri_loop (ι := { p : Nat × Int × (List Rec) × Int // s_GetRecords_l0 p0 p2 p.1 p.2.1 p.2.2.1 p.2.2.2 = some (r0, r1, r2) }) (fun p => inv_s_GetRecords_0 p0 p2 p.1.2.1 p.1.2.2.1 p.1.2.2.2) (fun p => p.1.1) ⟨(fuel0, p1, ([] : List Rec), 0), h⟩ ?_ ?_
  ·skip
   refine entX [((2009, 0), ⟨62, 6, List.map recV ([] : List Rec), false, true⟩, some (14, 0))] [] ⟨⟨rfl, _, rfl, rfl, rfl, rfl, id, rowsCv_eq rfl (allFree_map recV_free), rowsZ_map recV_len⟩, trivial⟩ trivial rfl rfl ?_
   exact ⟨(.free rfl), (.free rfl), (.free rfl), (.ref rfl), (.free rfl), trivial⟩
  ·rintro ⟨⟨f0, v0_0, v0_1, v0_2⟩, h⟩
   replace h : s_GetRecords_l0 p0 p2 f0 v0_0 v0_1 v0_2 = some (r0, r1, r2) := h
   cases f0 with
   | zero => cases h
   | succ f0 =>
   rw [s_GetRecords_l0] at h
   show Tri _ _ _ (inv_s_GetRecords_0 p0 p2 v0_0 v0_1 v0_2)
   refine tri_seq ?_
   refine tri_sr ?_
   refine m1 ?_
   refine m1 ?_
   refine s_of (st_lss rfl rfl rfl) rfl rfl rfl rfl ?_
   refine rt_nil ?_
   refine tri_cond rfl (fun c4 => ?_) (fun c4 => ?_)
   ·replace h := cond_t h c4
    refine tri_skip ?_
    refine tri_seq ?_
    refine tri_block ?_
    refine tri_sr ?_
    refine m1 ?_
    refine m1 ?_
    refine bnd3_elim h fun x5 x6 x7 q8 h => ?_
    refine s_callN (kb := []) (ns := []) (v := .tup [.agg (recV x5), .sc (.int .i64 x6), .sc (.int .i64 x7)]) rfl rfl cl37 (ws_GetRecord p0 v0_0 x5 x6 x7 q8) rfl (.cons (.free rfl) (.cons (.free rfl) .nil)) trivial memNil .nil memNil rfl trivial memNil rfl rfl rfl rfl rfl rfl ?_
    refine m1 ?_
    refine s_extract rfl rfl rfl rfl rfl rfl ?_
    refine s_extract rfl rfl rfl rfl rfl rfl ?_
    refine s_extract rfl rfl rfl rfl rfl rfl ?_
    refine s_alloc rfl rfl rfl zc62 rfl rfl rfl rfl rfl ?_
    refine s_storeB rfl rfl rfl ty62 rfl rfl rfl rfl rfl ?_
    refine m2 ?_
    refine m2 ?_
    refine rt_nil ?_
    refine tri_seq ?_
    refine tri_sr ?_
    refine m1 ?_
    refine s_of (st_neI rfl rfl rfl) rfl rfl rfl rfl ?_
    refine rt_nil ?_
    refine tri_cond rfl (fun c9 => ?_) (fun c9 => ?_)
    ·replace h := cond_t h c9
     refine tri_sr ?_
     refine s_buildSlice (rows' := List.map recV ([] : List Rec)) rfl rfl rfl sl31 zc62 rfl rfl rfl rfl rfl rfl rfl rfl rfl ?_
     refine m1 ?_
     refine m2 ?_
     refine s_mv (.inr rfl) (v := .sc (.int .i64 0)) rfl rfl rfl rfl ?_
     refine m2 ?_
     refine rt_nil ?_
     refine tri_ret ?_
     have e0 := (some3 h).1; have e1 := (some3 h).2.1; have e2 := (some3 h).2.2; subst e0; subst e1; subst e2
     exact endY (v' := .tup [.ref (2000, 100) 0 (([] : List Rec).length), .sc (.int .i64 0), .sc (.int .i64 x7)]) [((2000, 100), ⟨62, 6, List.map recV ([] : List Rec), false, true⟩, some (33, 0))] [] (rvC (resTmp rfl) (rvC (resTmp rfl) (rvC (resTmp rfl) rvN))) ⟨⟨rfl, _, rfl, rfl, rfl, rfl, id, rowsCv_eq rfl (allFree_map recV_free), rowsZ_map recV_len⟩, trivial⟩ trivial rfl rfl (by kernel_rfl) (by simp only [V.mat, V.mat1, V.mat0, matL, matT, List.length_map] <;> rfl) (CvL.tup (.cons (.ref rfl) (.cons (.free rfl) (.cons (.free rfl) .nil))))
    ·replace h := cond_f h c9
     refine tri_skip ?_
     refine tri_sr ?_
     refine m1 ?_
     refine s_loadR rfl rfl rfl rfl ty62 rfl rfl rfl ?_
     refine s_buildSlice (rows' := List.map recV [x5]) rfl rfl rfl sl31 zc62 rfl rfl rfl rfl rfl rfl rfl rfl rfl ?_
     refine grd_elim h fun g10 h => ?_
     refine s_appL rfl rfl rfl sl31 zc62 rfl rfl rfl rfl rfl rfl (src_refL rfl rfl) g10 rfl rfl ?_
     refine m2 ?_
     refine rt_nil ?_
     refine tri_region ?_
     refine m1 ?_
     refine m2 ?_
     refine rt_nil ?_
     refine tri_region ?_
     refine m1 ?_
     refine grd_elim h fun g11 h => ?_
     refine s_addI rfl rfl rfl rfl g11 rfl rfl rfl ?_
     refine m2 ?_
     refine rt_nil ?_
     refine Exists.intro ⟨(f0, x6, v0_1 ++ [x5], v0_2 + 1), h⟩ (And.intro (Nat.lt_succ_self _) ?_)
     refine entX [((2009, 0), ⟨62, 6, List.map recV (v0_1 ++ [x5]), false, true⟩, some (38, 0))] [] ⟨⟨rfl, _, rfl, rfl, rfl, rfl, id, rowsCv_eq rfl (allFree_map recV_free), rowsZ_map recV_len⟩, trivial⟩ trivial rfl rfl ?_
     exact ⟨(.free rfl), (.free rfl), (.free rfl), (.ref rfl), (.free rfl), trivial⟩
   ·replace h := cond_f h c4
    refine tri_exit ?_
    refine tri_sr ?_
    refine m1 ?_
    refine m1 ?_
    refine m2 ?_
    refine m2 ?_
    refine s_mv (.inr rfl) (v := .sc (.int .i64 0)) rfl rfl rfl rfl ?_
    refine rt_nil ?_
    refine tri_ret ?_
    have e0 := (some3 h).1; have e1 := (some3 h).2.1; have e2 := (some3 h).2.2; subst e0; subst e1; subst e2
    exact endY (v' := .tup [.ref (2000, 100) 0 v0_1.length, .sc (.int .i64 v0_0), .sc (.int .i64 0)]) [((2000, 100), ⟨62, 6, List.map recV v0_1, false, true⟩, some (2009, 0))] [] (rvC (resTmp rfl) (rvC (resTmp rfl) (rvC (resTmp rfl) rvN))) ⟨⟨rfl, _, rfl, rfl, rfl, rfl, id, rowsCv_eq rfl (allFree_map recV_free), rowsZ_map recV_len⟩, trivial⟩ trivial rfl rfl (by kernel_rfl) (by simp only [V.mat, V.mat1, V.mat0, matL, matT, List.length_map] <;> rfl) (CvL.tup (.cons (.ref rfl) (.cons (.free rfl) (.cons (.free rfl) .nil))))

/- spec.GetMsg -/
def inv_s_GetMsg_1 (x1 : MMsg) (x8 : Quest) (x13 : List Rec) (x18 : List Rec) (x23 : List Rec) (j1_0 : Bool) : St := mkT 94 [(2, .ptr (2, 0) 0 0), (4, .ptr (4, 0) 0 0), (9, .ptr (9, 0) 0 0), (12, .ref (50, 100) 0 x13.length), (15, .ref (61, 100) 0 x18.length), (18, .ref (72, 100) 0 x23.length), (83, .sc (.bool j1_0))] [((2, 0), some ⟨33, 12, [[.sc (.int .i64 0), .sc (.bool false), .sc (.bool false), .sc (.bool false), .sc (.bool false), .sc (.bool false), .sc (.int .i64 0), .sc (.string (⟨#[]⟩ : ByteArray)), .sc (.int .i64 0), .nils, .nils, .nils]], false, true⟩), ((4, 0), some ⟨33, 12, [[.sc (.int .i64 x1.id), .sc (.bool x1.reply), .sc (.bool x1.auth), .sc (.bool x1.cut), .sc (.bool x1.want), .sc (.bool x1.can), .sc (.int .i64 x1.code), .sc (.string x1.q.name), .sc (.int .i64 x1.q.ty), .ref (23, 109) 0 x1.an.length, .ref (23, 110) 0 x1.au.length, .ref (23, 111) 0 x1.ad.length]], false, true⟩), ((23, 109), some ⟨62, 6, List.map recV x1.an, false, true⟩), ((23, 110), some ⟨62, 6, List.map recV x1.au, false, true⟩), ((23, 111), some ⟨62, 6, List.map recV x1.ad, false, true⟩), ((9, 0), some ⟨24, 2, [[.sc (.string x8.name), .sc (.int .i64 x8.ty)]], false, true⟩), ((50, 100), some ⟨62, 6, List.map recV x13, false, true⟩), ((61, 100), some ⟨62, 6, List.map recV x18, false, true⟩), ((72, 100), some ⟨62, 6, List.map recV x23, false, true⟩)]
def inv_s_GetMsg_0 (p0 : List Int) (x1 : MMsg) (x2 : Int) (x3 : Int) (x4 : Int) (j0_0 : Bool) : St := mkT 94 [(0, .lst 1 (List.map byteV p0)), (2, .ptr (2, 0) 0 0), (4, .ptr (4, 0) 0 0), (5, .sc (.int .i64 x2)), (6, .sc (.int .i64 x3)), (7, .sc (.int .i64 x4)), (35, .sc (.bool j0_0))] [((2, 0), some ⟨33, 12, [[.sc (.int .i64 0), .sc (.bool false), .sc (.bool false), .sc (.bool false), .sc (.bool false), .sc (.bool false), .sc (.int .i64 0), .sc (.string (⟨#[]⟩ : ByteArray)), .sc (.int .i64 0), .nils, .nils, .nils]], false, true⟩), ((4, 0), some ⟨33, 12, [[.sc (.int .i64 x1.id), .sc (.bool x1.reply), .sc (.bool x1.auth), .sc (.bool x1.cut), .sc (.bool x1.want), .sc (.bool x1.can), .sc (.int .i64 x1.code), .sc (.string x1.q.name), .sc (.int .i64 x1.q.ty), .ref (23, 109) 0 x1.an.length, .ref (23, 110) 0 x1.au.length, .ref (23, 111) 0 x1.ad.length]], false, true⟩), ((23, 109), some ⟨62, 6, List.map recV x1.an, false, true⟩), ((23, 110), some ⟨62, 6, List.map recV x1.au, false, true⟩), ((23, 111), some ⟨62, 6, List.map recV x1.ad, false, true⟩)]
set_option maxRecDepth 4000 in
set_option maxHeartbeats 800000 in
theorem ws_GetMsg (p0 : List Int) (r0 : MMsg) (r1 : Bool) (h : s_GetMsg p0 = some (r0, r1)) : Runs Tryd.prog 10 [.lst 1 (List.map byteV p0)] [] (.tup [.agg [.sc (.int .i64 r0.id), .sc (.bool r0.reply), .sc (.bool r0.auth), .sc (.bool r0.cut), .sc (.bool r0.want), .sc (.bool r0.can), .sc (.int .i64 r0.code), .sc (.string r0.q.name), .sc (.int .i64 r0.q.ty), .own 62 6 (List.map recV r0.an), .own 62 6 (List.map recV r0.au), .own 62 6 (List.map recV r0.ad)], .sc (.bool r1)]) [] := by
 unfold s_GetMsg at h
 refine runsR [.cell 2 33, .tmp 3] Tryd.func10 rfl rfl rfl rfl ?_
 rw [Tryd.ntmps10]
 refine tri_sr ?_
 refine s_alloc rfl rfl rfl zc33 rfl rfl rfl rfl rfl ?_
 refine s_mv (.inr rfl) (v := .sc (.bool false)) rfl rfl rfl rfl ?_
 refine rt_nil ?_
 refine tri_sr ?_
 refine m1 ?_
 refine bnd5_elim h fun x1 x2 x3 x4 x5 q6 h => ?_
 refine s_callN (kb := []) (ns := []) (v := .tup [.agg [.sc (.int .i64 x1.id), .sc (.bool x1.reply), .sc (.bool x1.auth), .sc (.bool x1.cut), .sc (.bool x1.want), .sc (.bool x1.can), .sc (.int .i64 x1.code), .sc (.string x1.q.name), .sc (.int .i64 x1.q.ty), .ref (23, 109) 0 x1.an.length, .ref (23, 110) 0 x1.au.length, .ref (23, 111) 0 x1.ad.length], .sc (.int .i64 x2), .sc (.int .i64 x3), .sc (.int .i64 x4), .sc (.bool x5)]) rfl rfl cl22 (ws_GetHead p0 x1 x2 x3 x4 x5 q6) rfl (.cons (.free rfl) .nil) trivial memNil .nil memNil rfl ⟨(allSc_map recV_sc), ⟨(allSc_map recV_sc), ⟨(allSc_map recV_sc), trivial⟩⟩⟩ memNil rfl (by simp only [V.mat, V.mat1, V.mat0, matL, matT, List.length_map] <;> rfl) rfl rfl rfl rfl ?_
 refine m1 ?_
 refine s_extract rfl rfl rfl rfl rfl rfl ?_
 refine s_extract rfl rfl rfl rfl rfl rfl ?_
 refine s_extract rfl rfl rfl rfl rfl rfl ?_
 refine s_extract rfl rfl rfl rfl rfl rfl ?_
 refine s_extract rfl rfl rfl rfl rfl rfl ?_
 refine s_alloc rfl rfl rfl zc33 rfl rfl rfl rfl rfl ?_
 refine s_storeB rfl rfl rfl ty33 rfl rfl rfl rfl rfl ?_
 refine m2 ?_
 refine m2 ?_
 refine m2 ?_
 refine m2 ?_
 refine rt_nil ?_
 refine tri_seq ?_
 refine tri_cutI (ι := { p : Bool // s_GetMsg_j0 p0 x1 x2 x3 x4 p = some (r0, r1) }) (fun p => inv_s_GetMsg_0 p0 x1 x2 x3 x4 p.1) ?_ ?_
 ·skip
  refine tri_region ?_
  refine m1 ?_
  refine s_of (st_not rfl rfl) rfl rfl rfl rfl ?_
  refine m1 ?_
  refine s_split (t := 31) rfl (fun b7 => ?_) (fun b7 => ?_)
  ·replace h := cond_t h b7
   refine s_skip rfl rfl rfl ?_
   refine s_skip rfl rfl rfl ?_
   refine s_skip rfl rfl rfl ?_
   refine s_pickT rfl rfl (v := .sc (.bool true)) rfl rfl rfl rfl ?_
   refine rt_nil ?_
   refine Exists.intro ⟨true, h⟩ ?_
   refine entX [((2, 0), ⟨33, 12, [[.sc (.int .i64 0), .sc (.bool false), .sc (.bool false), .sc (.bool false), .sc (.bool false), .sc (.bool false), .sc (.int .i64 0), .sc (.string (⟨#[]⟩ : ByteArray)), .sc (.int .i64 0), .nils, .nils, .nils]], false, true⟩, some (2, 0)), ((4, 0), ⟨33, 12, [[.sc (.int .i64 x1.id), .sc (.bool x1.reply), .sc (.bool x1.auth), .sc (.bool x1.cut), .sc (.bool x1.want), .sc (.bool x1.can), .sc (.int .i64 x1.code), .sc (.string x1.q.name), .sc (.int .i64 x1.q.ty), .ref (23, 109) 0 x1.an.length, .ref (23, 110) 0 x1.au.length, .ref (23, 111) 0 x1.ad.length]], false, true⟩, some (4, 0)), ((23, 109), ⟨62, 6, List.map recV x1.an, false, true⟩, some (23, 109)), ((23, 110), ⟨62, 6, List.map recV x1.au, false, true⟩, some (23, 110)), ((23, 111), ⟨62, 6, List.map recV x1.ad, false, true⟩, some (23, 111))] [] ⟨⟨rfl, _, rfl, rfl, rfl, rfl, id, rowsCv_one (.cons (.free rfl) (.cons (.free rfl) (.cons (.free rfl) (.cons (.free rfl) (.cons (.free rfl) (.cons (.free rfl) (.cons (.free rfl) (.cons (.free rfl) (.cons (.free rfl) (.cons (.free rfl) (.cons (.free rfl) (.cons (.free rfl) .nil)))))))))))), rowsZ_one rfl⟩, ⟨rfl, _, rfl, rfl, rfl, rfl, id, rowsCv_one (.cons (.free rfl) (.cons (.free rfl) (.cons (.free rfl) (.cons (.free rfl) (.cons (.free rfl) (.cons (.free rfl) (.cons (.free rfl) (.cons (.free rfl) (.cons (.free rfl) (.cons (.ref rfl) (.cons (.ref rfl) (.cons (.ref rfl) .nil)))))))))))), rowsZ_one rfl⟩, ⟨rfl, _, rfl, rfl, rfl, rfl, id, rowsCv_eq rfl (allFree_map recV_free), rowsZ_map recV_len⟩, ⟨rfl, _, rfl, rfl, rfl, rfl, id, rowsCv_eq rfl (allFree_map recV_free), rowsZ_map recV_len⟩, ⟨rfl, _, rfl, rfl, rfl, rfl, id, rowsCv_eq rfl (allFree_map recV_free), rowsZ_map recV_len⟩, trivial⟩ trivial rfl rfl ?_
   exact ⟨(.free rfl), (.ptr rfl), (.ptr rfl), (.free rfl), (.free rfl), (.free rfl), (.free rfl), trivial⟩
  ·replace h := cond_f h b7
   refine m1 ?_
   refine s_lenL rfl sl22 rfl rfl rfl rfl ?_
   refine s_of (st_gtr rfl rfl rfl) rfl rfl rfl rfl ?_
   refine s_pickF rfl rfl (by conv => lhs; whnf) rfl rfl rfl ?_
   refine rt_nil ?_
   refine Exists.intro ⟨decide (512 < (p0.length : Int)), h⟩ ?_
   refine entX [((2, 0), ⟨33, 12, [[.sc (.int .i64 0), .sc (.bool false), .sc (.bool false), .sc (.bool false), .sc (.bool false), .sc (.bool false), .sc (.int .i64 0), .sc (.string (⟨#[]⟩ : ByteArray)), .sc (.int .i64 0), .nils, .nils, .nils]], false, true⟩, some (2, 0)), ((4, 0), ⟨33, 12, [[.sc (.int .i64 x1.id), .sc (.bool x1.reply), .sc (.bool x1.auth), .sc (.bool x1.cut), .sc (.bool x1.want), .sc (.bool x1.can), .sc (.int .i64 x1.code), .sc (.string x1.q.name), .sc (.int .i64 x1.q.ty), .ref (23, 109) 0 x1.an.length, .ref (23, 110) 0 x1.au.length, .ref (23, 111) 0 x1.ad.length]], false, true⟩, some (4, 0)), ((23, 109), ⟨62, 6, List.map recV x1.an, false, true⟩, some (23, 109)), ((23, 110), ⟨62, 6, List.map recV x1.au, false, true⟩, some (23, 110)), ((23, 111), ⟨62, 6, List.map recV x1.ad, false, true⟩, some (23, 111))] [] ⟨⟨rfl, _, rfl, rfl, rfl, rfl, id, rowsCv_one (.cons (.free rfl) (.cons (.free rfl) (.cons (.free rfl) (.cons (.free rfl) (.cons (.free rfl) (.cons (.free rfl) (.cons (.free rfl) (.cons (.free rfl) (.cons (.free rfl) (.cons (.free rfl) (.cons (.free rfl) (.cons (.free rfl) .nil)))))))))))), rowsZ_one rfl⟩, ⟨rfl, _, rfl, rfl, rfl, rfl, id, rowsCv_one (.cons (.free rfl) (.cons (.free rfl) (.cons (.free rfl) (.cons (.free rfl) (.cons (.free rfl) (.cons (.free rfl) (.cons (.free rfl) (.cons (.free rfl) (.cons (.free rfl) (.cons (.ref rfl) (.cons (.ref rfl) (.cons (.ref rfl) .nil)))))))))))), rowsZ_one rfl⟩, ⟨rfl, _, rfl, rfl, rfl, rfl, id, rowsCv_eq rfl (allFree_map recV_free), rowsZ_map recV_len⟩, ⟨rfl, _, rfl, rfl, rfl, rfl, id, rowsCv_eq rfl (allFree_map recV_free), rowsZ_map recV_len⟩, ⟨rfl, _, rfl, rfl, rfl, rfl, id, rowsCv_eq rfl (allFree_map recV_free), rowsZ_map recV_len⟩, trivial⟩ trivial rfl rfl ?_
   exact ⟨(.free rfl), (.ptr rfl), (.ptr rfl), (.free rfl), (.free rfl), (.free rfl), (.free rfl), trivial⟩
 ·rintro ⟨j0_0, h⟩
  replace h : s_GetMsg_j0 p0 x1 x2 x3 x4 j0_0 = some (r0, r1) := h
  unfold s_GetMsg_j0 at h
  show Tri _ _ _ (inv_s_GetMsg_0 p0 x1 x2 x3 x4 j0_0)
  refine tri_cond rfl (fun c7 => ?_) (fun c7 => ?_)
  ·replace h := cond_t h c7
   refine tri_sr ?_
   refine s_build (cells' := [.sc (.int .i64 0), .sc (.bool false), .sc (.bool false), .sc (.bool false), .sc (.bool false), .sc (.bool false), .sc (.int .i64 0), .sc (.string (⟨#[]⟩ : ByteArray)), .sc (.int .i64 0), .nils, .nils, .nils]) rfl stc33 rfl rfl rfl rfl rfl rfl rfl ?_
   refine s_storeB rfl rfl rfl ty33 rfl rfl rfl rfl rfl ?_
   refine s_mv (.inr rfl) (v := .sc (.bool false)) rfl rfl rfl rfl ?_
   refine rt_nil ?_
   refine tri_ret ?_
   have e0 := (some2 h).1; have e1 := (some2 h).2; subst e0; subst e1
   exact endY (v' := .tup [.agg [.sc (.int .i64 0), .sc (.bool false), .sc (.bool false), .sc (.bool false), .sc (.bool false), .sc (.bool false), .sc (.int .i64 0), .sc (.string (⟨#[]⟩ : ByteArray)), .sc (.int .i64 0), .ref (2000, 109) 0 (([] : List Rec).length), .ref (2000, 110) 0 (([] : List Rec).length), .ref (2000, 111) 0 (([] : List Rec).length)], .sc (.bool false)]) [((2000, 109), ⟨62, 6, List.map recV ([] : List Rec), false, true⟩, none), ((2000, 110), ⟨62, 6, List.map recV ([] : List Rec), false, true⟩, none), ((2000, 111), ⟨62, 6, List.map recV ([] : List Rec), false, true⟩, none)] [] (rvC (resCell rfl rfl ty33) (rvC (resTmp rfl) rvN)) ⟨rfl, rfl, rfl, trivial⟩ trivial rfl rfl (by kernel_rfl) (by simp only [V.mat, V.mat1, V.mat0, matL, matT, List.length_map] <;> rfl) (CvL.tup (.cons (CvL.agg (.cons (.free rfl) (.cons (.free rfl) (.cons (.free rfl) (.cons (.free rfl) (.cons (.free rfl) (.cons (.free rfl) (.cons (.free rfl) (.cons (.free rfl) (.cons (.free rfl) (.cons (.nilRef rfl) (.cons (.nilRef rfl) (.cons (.nilRef rfl) .nil))))))))))))) (.cons (.free rfl) .nil)))
  ·replace h := cond_f h c7
   refine tri_skip ?_
   refine tri_sr ?_
   refine m1 ?_
   refine bnd3_elim h fun x8 x9 x10 q11 h => ?_
   refine s_callN (kb := []) (ns := []) (v := .tup [.agg (questV x8), .sc (.int .i64 x9), .sc (.int .i64 x10)]) rfl rfl cl5 (ws_GetQuest p0 12 x8 x9 x10 q11) rfl (.cons (.free rfl) (.cons (.free rfl) .nil)) trivial memNil .nil memNil rfl trivial memNil rfl rfl rfl rfl rfl rfl ?_
   refine m1 ?_
   refine s_extract rfl rfl rfl rfl rfl rfl ?_
   refine s_extract rfl rfl rfl rfl rfl rfl ?_
   refine s_extract rfl rfl rfl rfl rfl rfl ?_
   refine s_alloc rfl rfl rfl zc24 rfl rfl rfl rfl rfl ?_
   refine s_storeB rfl rfl rfl ty24 rfl rfl rfl rfl rfl ?_
   refine m2 ?_
   refine m2 ?_
   refine rt_nil ?_
   refine tri_seq ?_
   refine tri_sr ?_
   refine m1 ?_
   refine s_of (st_neI rfl rfl rfl) rfl rfl rfl rfl ?_
   refine rt_nil ?_
   refine tri_cond rfl (fun c12 => ?_) (fun c12 => ?_)
   ·replace h := cond_t h c12
    refine tri_sr ?_
    refine s_build (cells' := [.sc (.int .i64 0), .sc (.bool false), .sc (.bool false), .sc (.bool false), .sc (.bool false), .sc (.bool false), .sc (.int .i64 0), .sc (.string (⟨#[]⟩ : ByteArray)), .sc (.int .i64 0), .nils, .nils, .nils]) rfl stc33 rfl rfl rfl rfl rfl rfl rfl ?_
    refine s_storeB rfl rfl rfl ty33 rfl rfl rfl rfl rfl ?_
    refine s_mv (.inr rfl) (v := .sc (.bool false)) rfl rfl rfl rfl ?_
    refine rt_nil ?_
    refine tri_ret ?_
    have e0 := (some2 h).1; have e1 := (some2 h).2; subst e0; subst e1
    exact endY (v' := .tup [.agg [.sc (.int .i64 0), .sc (.bool false), .sc (.bool false), .sc (.bool false), .sc (.bool false), .sc (.bool false), .sc (.int .i64 0), .sc (.string (⟨#[]⟩ : ByteArray)), .sc (.int .i64 0), .ref (2000, 109) 0 (([] : List Rec).length), .ref (2000, 110) 0 (([] : List Rec).length), .ref (2000, 111) 0 (([] : List Rec).length)], .sc (.bool false)]) [((2000, 109), ⟨62, 6, List.map recV ([] : List Rec), false, true⟩, none), ((2000, 110), ⟨62, 6, List.map recV ([] : List Rec), false, true⟩, none), ((2000, 111), ⟨62, 6, List.map recV ([] : List Rec), false, true⟩, none)] [] (rvC (resCell rfl rfl ty33) (rvC (resTmp rfl) rvN)) ⟨rfl, rfl, rfl, trivial⟩ trivial rfl rfl (by kernel_rfl) (by simp only [V.mat, V.mat1, V.mat0, matL, matT, List.length_map] <;> rfl) (CvL.tup (.cons (CvL.agg (.cons (.free rfl) (.cons (.free rfl) (.cons (.free rfl) (.cons (.free rfl) (.cons (.free rfl) (.cons (.free rfl) (.cons (.free rfl) (.cons (.free rfl) (.cons (.free rfl) (.cons (.nilRef rfl) (.cons (.nilRef rfl) (.cons (.nilRef rfl) .nil))))))))))))) (.cons (.free rfl) .nil)))
   ·replace h := cond_f h c12
    refine tri_skip ?_
    refine tri_sr ?_
    refine m1 ?_
    refine m1 ?_
    refine m1 ?_
    refine bnd3_elim h fun x13 x14 x15 q16 h => ?_
    refine s_callN (kb := []) (ns := []) (v := .tup [.ref (50, 100) 0 x13.length, .sc (.int .i64 x14), .sc (.int .i64 x15)]) rfl rfl cl23 (ws_GetRecords p0 x9 x2 x13 x14 x15 q16) rfl (.cons (.free rfl) (.cons (.free rfl) (.cons (.free rfl) .nil))) trivial memNil .nil memNil rfl ⟨(allSc_map recV_sc), trivial⟩ memNil rfl (by simp only [V.mat, V.mat1, V.mat0, matL, matT, List.length_map] <;> rfl) rfl rfl rfl rfl ?_
    refine m1 ?_
    refine s_extract rfl rfl rfl rfl rfl rfl ?_
    refine s_extract rfl rfl rfl rfl rfl rfl ?_
    refine s_extract rfl rfl rfl rfl rfl rfl ?_
    refine m2 ?_
    refine m2 ?_
    refine m2 ?_
    refine rt_nil ?_
    refine tri_seq ?_
    refine tri_sr ?_
    refine m1 ?_
    refine s_of (st_neI rfl rfl rfl) rfl rfl rfl rfl ?_
    refine rt_nil ?_
    refine tri_cond rfl (fun c17 => ?_) (fun c17 => ?_)
    ·replace h := cond_t h c17
     refine tri_sr ?_
     refine s_build (cells' := [.sc (.int .i64 0), .sc (.bool false), .sc (.bool false), .sc (.bool false), .sc (.bool false), .sc (.bool false), .sc (.int .i64 0), .sc (.string (⟨#[]⟩ : ByteArray)), .sc (.int .i64 0), .nils, .nils, .nils]) rfl stc33 rfl rfl rfl rfl rfl rfl rfl ?_
     refine s_storeB rfl rfl rfl ty33 rfl rfl rfl rfl rfl ?_
     refine s_mv (.inr rfl) (v := .sc (.bool false)) rfl rfl rfl rfl ?_
     refine rt_nil ?_
     refine tri_ret ?_
     have e0 := (some2 h).1; have e1 := (some2 h).2; subst e0; subst e1
     exact endY (v' := .tup [.agg [.sc (.int .i64 0), .sc (.bool false), .sc (.bool false), .sc (.bool false), .sc (.bool false), .sc (.bool false), .sc (.int .i64 0), .sc (.string (⟨#[]⟩ : ByteArray)), .sc (.int .i64 0), .ref (2000, 109) 0 (([] : List Rec).length), .ref (2000, 110) 0 (([] : List Rec).length), .ref (2000, 111) 0 (([] : List Rec).length)], .sc (.bool false)]) [((2000, 109), ⟨62, 6, List.map recV ([] : List Rec), false, true⟩, none), ((2000, 110), ⟨62, 6, List.map recV ([] : List Rec), false, true⟩, none), ((2000, 111), ⟨62, 6, List.map recV ([] : List Rec), false, true⟩, none)] [] (rvC (resCell rfl rfl ty33) (rvC (resTmp rfl) rvN)) ⟨rfl, rfl, rfl, trivial⟩ trivial rfl rfl (by kernel_rfl) (by simp only [V.mat, V.mat1, V.mat0, matL, matT, List.length_map] <;> rfl) (CvL.tup (.cons (CvL.agg (.cons (.free rfl) (.cons (.free rfl) (.cons (.free rfl) (.cons (.free rfl) (.cons (.free rfl) (.cons (.free rfl) (.cons (.free rfl) (.cons (.free rfl) (.cons (.free rfl) (.cons (.nilRef rfl) (.cons (.nilRef rfl) (.cons (.nilRef rfl) .nil))))))))))))) (.cons (.free rfl) .nil)))
    ·replace h := cond_f h c17
     refine tri_skip ?_
     refine tri_sr ?_
     refine m1 ?_
     refine m1 ?_
     refine m1 ?_
     refine bnd3_elim h fun x18 x19 x20 q21 h => ?_
     refine s_callN (kb := []) (ns := []) (v := .tup [.ref (61, 100) 0 x18.length, .sc (.int .i64 x19), .sc (.int .i64 x20)]) rfl rfl cl23 (ws_GetRecords p0 x14 x3 x18 x19 x20 q21) rfl (.cons (.free rfl) (.cons (.free rfl) (.cons (.free rfl) .nil))) trivial memNil .nil memNil rfl ⟨(allSc_map recV_sc), trivial⟩ memNil rfl (by simp only [V.mat, V.mat1, V.mat0, matL, matT, List.length_map] <;> rfl) rfl rfl rfl rfl ?_
     refine m1 ?_
     refine s_extract rfl rfl rfl rfl rfl rfl ?_
     refine s_extract rfl rfl rfl rfl rfl rfl ?_
     refine s_extract rfl rfl rfl rfl rfl rfl ?_
     refine m2 ?_
     refine m2 ?_
     refine m2 ?_
     refine rt_nil ?_
     refine tri_seq ?_
     refine tri_sr ?_
     refine m1 ?_
     refine s_of (st_neI rfl rfl rfl) rfl rfl rfl rfl ?_
     refine rt_nil ?_
     refine tri_cond rfl (fun c22 => ?_) (fun c22 => ?_)
     ·replace h := cond_t h c22
      refine tri_sr ?_
      refine s_build (cells' := [.sc (.int .i64 0), .sc (.bool false), .sc (.bool false), .sc (.bool false), .sc (.bool false), .sc (.bool false), .sc (.int .i64 0), .sc (.string (⟨#[]⟩ : ByteArray)), .sc (.int .i64 0), .nils, .nils, .nils]) rfl stc33 rfl rfl rfl rfl rfl rfl rfl ?_
      refine s_storeB rfl rfl rfl ty33 rfl rfl rfl rfl rfl ?_
      refine s_mv (.inr rfl) (v := .sc (.bool false)) rfl rfl rfl rfl ?_
      refine rt_nil ?_
      refine tri_ret ?_
      have e0 := (some2 h).1; have e1 := (some2 h).2; subst e0; subst e1
      exact endY (v' := .tup [.agg [.sc (.int .i64 0), .sc (.bool false), .sc (.bool false), .sc (.bool false), .sc (.bool false), .sc (.bool false), .sc (.int .i64 0), .sc (.string (⟨#[]⟩ : ByteArray)), .sc (.int .i64 0), .ref (2000, 109) 0 (([] : List Rec).length), .ref (2000, 110) 0 (([] : List Rec).length), .ref (2000, 111) 0 (([] : List Rec).length)], .sc (.bool false)]) [((2000, 109), ⟨62, 6, List.map recV ([] : List Rec), false, true⟩, none), ((2000, 110), ⟨62, 6, List.map recV ([] : List Rec), false, true⟩, none), ((2000, 111), ⟨62, 6, List.map recV ([] : List Rec), false, true⟩, none)] [] (rvC (resCell rfl rfl ty33) (rvC (resTmp rfl) rvN)) ⟨rfl, rfl, rfl, trivial⟩ trivial rfl rfl (by kernel_rfl) (by simp only [V.mat, V.mat1, V.mat0, matL, matT, List.length_map] <;> rfl) (CvL.tup (.cons (CvL.agg (.cons (.free rfl) (.cons (.free rfl) (.cons (.free rfl) (.cons (.free rfl) (.cons (.free rfl) (.cons (.free rfl) (.cons (.free rfl) (.cons (.free rfl) (.cons (.free rfl) (.cons (.nilRef rfl) (.cons (.nilRef rfl) (.cons (.nilRef rfl) .nil))))))))))))) (.cons (.free rfl) .nil)))
     ·replace h := cond_f h c22
      refine tri_skip ?_
      refine tri_sr ?_
      refine m1 ?_
      refine m1 ?_
      refine m1 ?_
      refine bnd3_elim h fun x23 x24 x25 q26 h => ?_
      refine s_callN (kb := []) (ns := []) (v := .tup [.ref (72, 100) 0 x23.length, .sc (.int .i64 x24), .sc (.int .i64 x25)]) rfl rfl cl23 (ws_GetRecords p0 x19 x4 x23 x24 x25 q26) rfl (.cons (.free rfl) (.cons (.free rfl) (.cons (.free rfl) .nil))) trivial memNil .nil memNil rfl ⟨(allSc_map recV_sc), trivial⟩ memNil rfl (by simp only [V.mat, V.mat1, V.mat0, matL, matT, List.length_map] <;> rfl) rfl rfl rfl rfl ?_
      refine m1 ?_
      refine s_extract rfl rfl rfl rfl rfl rfl ?_
      refine s_extract rfl rfl rfl rfl rfl rfl ?_
      refine s_extract rfl rfl rfl rfl rfl rfl ?_
      refine m2 ?_
      refine m2 ?_
      refine m2 ?_
      refine rt_nil ?_
      refine tri_seq ?_
      refine tri_cutI (ι := { p : Bool // s_GetMsg_j1 x1 x8 x13 x18 x23 p = some (r0, r1) }) (fun p => inv_s_GetMsg_1 x1 x8 x13 x18 x23 p.1) ?_ ?_
      ·skip
       refine tri_region ?_
       refine m1 ?_
       refine s_of (st_neI rfl rfl rfl) rfl rfl rfl rfl ?_
       refine m1 ?_
       refine s_split (t := 78) rfl (fun b27 => ?_) (fun b27 => ?_)
       ·replace h := cond_t h b27
        refine s_skip rfl rfl rfl ?_
        refine s_skip rfl rfl rfl ?_
        refine s_skip rfl rfl rfl ?_
        refine s_skip rfl rfl rfl ?_
        refine s_pickT rfl rfl (v := .sc (.bool true)) rfl rfl rfl rfl ?_
        refine rt_nil ?_
        refine Exists.intro ⟨true, h⟩ ?_
        refine entX [((2, 0), ⟨33, 12, [[.sc (.int .i64 0), .sc (.bool false), .sc (.bool false), .sc (.bool false), .sc (.bool false), .sc (.bool false), .sc (.int .i64 0), .sc (.string (⟨#[]⟩ : ByteArray)), .sc (.int .i64 0), .nils, .nils, .nils]], false, true⟩, some (2, 0)), ((4, 0), ⟨33, 12, [[.sc (.int .i64 x1.id), .sc (.bool x1.reply), .sc (.bool x1.auth), .sc (.bool x1.cut), .sc (.bool x1.want), .sc (.bool x1.can), .sc (.int .i64 x1.code), .sc (.string x1.q.name), .sc (.int .i64 x1.q.ty), .ref (23, 109) 0 x1.an.length, .ref (23, 110) 0 x1.au.length, .ref (23, 111) 0 x1.ad.length]], false, true⟩, some (4, 0)), ((23, 109), ⟨62, 6, List.map recV x1.an, false, true⟩, some (23, 109)), ((23, 110), ⟨62, 6, List.map recV x1.au, false, true⟩, some (23, 110)), ((23, 111), ⟨62, 6, List.map recV x1.ad, false, true⟩, some (23, 111)), ((9, 0), ⟨24, 2, [[.sc (.string x8.name), .sc (.int .i64 x8.ty)]], false, true⟩, some (9, 0)), ((50, 100), ⟨62, 6, List.map recV x13, false, true⟩, some (50, 100)), ((61, 100), ⟨62, 6, List.map recV x18, false, true⟩, some (61, 100)), ((72, 100), ⟨62, 6, List.map recV x23, false, true⟩, some (72, 100))] [] ⟨⟨rfl, _, rfl, rfl, rfl, rfl, id, rowsCv_one (.cons (.free rfl) (.cons (.free rfl) (.cons (.free rfl) (.cons (.free rfl) (.cons (.free rfl) (.cons (.free rfl) (.cons (.free rfl) (.cons (.free rfl) (.cons (.free rfl) (.cons (.free rfl) (.cons (.free rfl) (.cons (.free rfl) .nil)))))))))))), rowsZ_one rfl⟩, ⟨rfl, _, rfl, rfl, rfl, rfl, id, rowsCv_one (.cons (.free rfl) (.cons (.free rfl) (.cons (.free rfl) (.cons (.free rfl) (.cons (.free rfl) (.cons (.free rfl) (.cons (.free rfl) (.cons (.free rfl) (.cons (.free rfl) (.cons (.ref rfl) (.cons (.ref rfl) (.cons (.ref rfl) .nil)))))))))))), rowsZ_one rfl⟩, ⟨rfl, _, rfl, rfl, rfl, rfl, id, rowsCv_eq rfl (allFree_map recV_free), rowsZ_map recV_len⟩, ⟨rfl, _, rfl, rfl, rfl, rfl, id, rowsCv_eq rfl (allFree_map recV_free), rowsZ_map recV_len⟩, ⟨rfl, _, rfl, rfl, rfl, rfl, id, rowsCv_eq rfl (allFree_map recV_free), rowsZ_map recV_len⟩, ⟨rfl, _, rfl, rfl, rfl, rfl, id, rowsCv_one (.cons (.free rfl) (.cons (.free rfl) .nil)), rowsZ_one rfl⟩, ⟨rfl, _, rfl, rfl, rfl, rfl, id, rowsCv_eq rfl (allFree_map recV_free), rowsZ_map recV_len⟩, ⟨rfl, _, rfl, rfl, rfl, rfl, id, rowsCv_eq rfl (allFree_map recV_free), rowsZ_map recV_len⟩, ⟨rfl, _, rfl, rfl, rfl, rfl, id, rowsCv_eq rfl (allFree_map recV_free), rowsZ_map recV_len⟩, trivial⟩ trivial rfl rfl ?_
        exact ⟨(.ptr rfl), (.ptr rfl), (.ptr rfl), (.ref rfl), (.ref rfl), (.ref rfl), (.free rfl), trivial⟩
       ·replace h := cond_f h b27
        refine m1 ?_
        refine m1 ?_
        refine s_lenL rfl sl22 rfl rfl rfl rfl ?_
        refine s_of (st_neI rfl rfl rfl) rfl rfl rfl rfl ?_
        refine s_pickF rfl rfl (by conv => lhs; whnf) rfl rfl rfl ?_
        refine rt_nil ?_
        refine Exists.intro ⟨!decide (x24 = (p0.length : Int)), h⟩ ?_
        refine entX [((2, 0), ⟨33, 12, [[.sc (.int .i64 0), .sc (.bool false), .sc (.bool false), .sc (.bool false), .sc (.bool false), .sc (.bool false), .sc (.int .i64 0), .sc (.string (⟨#[]⟩ : ByteArray)), .sc (.int .i64 0), .nils, .nils, .nils]], false, true⟩, some (2, 0)), ((4, 0), ⟨33, 12, [[.sc (.int .i64 x1.id), .sc (.bool x1.reply), .sc (.bool x1.auth), .sc (.bool x1.cut), .sc (.bool x1.want), .sc (.bool x1.can), .sc (.int .i64 x1.code), .sc (.string x1.q.name), .sc (.int .i64 x1.q.ty), .ref (23, 109) 0 x1.an.length, .ref (23, 110) 0 x1.au.length, .ref (23, 111) 0 x1.ad.length]], false, true⟩, some (4, 0)), ((23, 109), ⟨62, 6, List.map recV x1.an, false, true⟩, some (23, 109)), ((23, 110), ⟨62, 6, List.map recV x1.au, false, true⟩, some (23, 110)), ((23, 111), ⟨62, 6, List.map recV x1.ad, false, true⟩, some (23, 111)), ((9, 0), ⟨24, 2, [[.sc (.string x8.name), .sc (.int .i64 x8.ty)]], false, true⟩, some (9, 0)), ((50, 100), ⟨62, 6, List.map recV x13, false, true⟩, some (50, 100)), ((61, 100), ⟨62, 6, List.map recV x18, false, true⟩, some (61, 100)), ((72, 100), ⟨62, 6, List.map recV x23, false, true⟩, some (72, 100))] [] ⟨⟨rfl, _, rfl, rfl, rfl, rfl, id, rowsCv_one (.cons (.free rfl) (.cons (.free rfl) (.cons (.free rfl) (.cons (.free rfl) (.cons (.free rfl) (.cons (.free rfl) (.cons (.free rfl) (.cons (.free rfl) (.cons (.free rfl) (.cons (.free rfl) (.cons (.free rfl) (.cons (.free rfl) .nil)))))))))))), rowsZ_one rfl⟩, ⟨rfl, _, rfl, rfl, rfl, rfl, id, rowsCv_one (.cons (.free rfl) (.cons (.free rfl) (.cons (.free rfl) (.cons (.free rfl) (.cons (.free rfl) (.cons (.free rfl) (.cons (.free rfl) (.cons (.free rfl) (.cons (.free rfl) (.cons (.ref rfl) (.cons (.ref rfl) (.cons (.ref rfl) .nil)))))))))))), rowsZ_one rfl⟩, ⟨rfl, _, rfl, rfl, rfl, rfl, id, rowsCv_eq rfl (allFree_map recV_free), rowsZ_map recV_len⟩, ⟨rfl, _, rfl, rfl, rfl, rfl, id, rowsCv_eq rfl (allFree_map recV_free), rowsZ_map recV_len⟩, ⟨rfl, _, rfl, rfl, rfl, rfl, id, rowsCv_eq rfl (allFree_map recV_free), rowsZ_map recV_len⟩, ⟨rfl, _, rfl, rfl, rfl, rfl, id, rowsCv_one (.cons (.free rfl) (.cons (.free rfl) .nil)), rowsZ_one rfl⟩, ⟨rfl, _, rfl, rfl, rfl, rfl, id, rowsCv_eq rfl (allFree_map recV_free), rowsZ_map recV_len⟩, ⟨rfl, _, rfl, rfl, rfl, rfl, id, rowsCv_eq rfl (allFree_map recV_free), rowsZ_map recV_len⟩, ⟨rfl, _, rfl, rfl, rfl, rfl, id, rowsCv_eq rfl (allFree_map recV_free), rowsZ_map recV_len⟩, trivial⟩ trivial rfl rfl ?_
        exact ⟨(.ptr rfl), (.ptr rfl), (.ptr rfl), (.ref rfl), (.ref rfl), (.ref rfl), (.free rfl), trivial⟩
      ·rintro ⟨j1_0, h⟩
       replace h : s_GetMsg_j1 x1 x8 x13 x18 x23 j1_0 = some (r0, r1) := h
       unfold s_GetMsg_j1 at h
       show Tri _ _ _ (inv_s_GetMsg_1 x1 x8 x13 x18 x23 j1_0)
       refine tri_cond rfl (fun c27 => ?_) (fun c27 => ?_)
       ·replace h := cond_t h c27
        refine tri_sr ?_
        refine s_build (cells' := [.sc (.int .i64 0), .sc (.bool false), .sc (.bool false), .sc (.bool false), .sc (.bool false), .sc (.bool false), .sc (.int .i64 0), .sc (.string (⟨#[]⟩ : ByteArray)), .sc (.int .i64 0), .nils, .nils, .nils]) rfl stc33 rfl rfl rfl rfl rfl rfl rfl ?_
        refine s_storeB rfl rfl rfl ty33 rfl rfl rfl rfl rfl ?_
        refine s_mv (.inr rfl) (v := .sc (.bool false)) rfl rfl rfl rfl ?_
        refine rt_nil ?_
        refine tri_ret ?_
        have e0 := (some2 h).1; have e1 := (some2 h).2; subst e0; subst e1
        exact endY (v' := .tup [.agg [.sc (.int .i64 0), .sc (.bool false), .sc (.bool false), .sc (.bool false), .sc (.bool false), .sc (.bool false), .sc (.int .i64 0), .sc (.string (⟨#[]⟩ : ByteArray)), .sc (.int .i64 0), .ref (2000, 109) 0 (([] : List Rec).length), .ref (2000, 110) 0 (([] : List Rec).length), .ref (2000, 111) 0 (([] : List Rec).length)], .sc (.bool false)]) [((2000, 109), ⟨62, 6, List.map recV ([] : List Rec), false, true⟩, none), ((2000, 110), ⟨62, 6, List.map recV ([] : List Rec), false, true⟩, none), ((2000, 111), ⟨62, 6, List.map recV ([] : List Rec), false, true⟩, none)] [] (rvC (resCell rfl rfl ty33) (rvC (resTmp rfl) rvN)) ⟨rfl, rfl, rfl, trivial⟩ trivial rfl rfl (by kernel_rfl) (by simp only [V.mat, V.mat1, V.mat0, matL, matT, List.length_map] <;> rfl) (CvL.tup (.cons (CvL.agg (.cons (.free rfl) (.cons (.free rfl) (.cons (.free rfl) (.cons (.free rfl) (.cons (.free rfl) (.cons (.free rfl) (.cons (.free rfl) (.cons (.free rfl) (.cons (.free rfl) (.cons (.nilRef rfl) (.cons (.nilRef rfl) (.cons (.nilRef rfl) .nil))))))))))))) (.cons (.free rfl) .nil)))
       ·replace h := cond_f h c27
        refine tri_skip ?_
        refine tri_sr ?_
        refine s_loadR rfl rfl rfl rfl ty24 rfl rfl rfl ?_
        refine s_fieldAddr rfl rfl fd33_7 rfl rfl rfl rfl ?_
        refine s_store (rows' := [[.sc (.int .i64 x1.id), .sc (.bool x1.reply), .sc (.bool x1.auth), .sc (.bool x1.cut), .sc (.bool x1.want), .sc (.bool x1.can), .sc (.int .i64 x1.code), .sc (.string x8.name), .sc (.int .i64 x8.ty), .ref (23, 109) 0 x1.an.length, .ref (23, 110) 0 x1.au.length, .ref (23, 111) 0 x1.ad.length]]) rfl rfl rfl rfl ty24 rfl rfl rfl rfl rfl rfl ?_
        refine rt_nil ?_
        refine tri_sr ?_
        refine m1 ?_
        refine s_fieldAddr rfl rfl fd33_8 rfl rfl rfl rfl ?_
        refine s_store (rows' := [[.sc (.int .i64 x1.id), .sc (.bool x1.reply), .sc (.bool x1.auth), .sc (.bool x1.cut), .sc (.bool x1.want), .sc (.bool x1.can), .sc (.int .i64 x1.code), .sc (.string x8.name), .sc (.int .i64 x8.ty), .ref (50, 100) 0 x13.length, .ref (23, 110) 0 x1.au.length, .ref (23, 111) 0 x1.ad.length]]) rfl rfl rfl rfl ty31 rfl rfl rfl rfl rfl rfl ?_
        refine rt_nil ?_
        refine tri_sr ?_
        refine m1 ?_
        refine s_fieldAddr rfl rfl fd33_9 rfl rfl rfl rfl ?_
        refine s_store (rows' := [[.sc (.int .i64 x1.id), .sc (.bool x1.reply), .sc (.bool x1.auth), .sc (.bool x1.cut), .sc (.bool x1.want), .sc (.bool x1.can), .sc (.int .i64 x1.code), .sc (.string x8.name), .sc (.int .i64 x8.ty), .ref (50, 100) 0 x13.length, .ref (61, 100) 0 x18.length, .ref (23, 111) 0 x1.ad.length]]) rfl rfl rfl rfl ty31 rfl rfl rfl rfl rfl rfl ?_
        refine rt_nil ?_
        refine tri_sr ?_
        refine m1 ?_
        refine s_fieldAddr rfl rfl fd33_10 rfl rfl rfl rfl ?_
        refine s_store (rows' := [[.sc (.int .i64 x1.id), .sc (.bool x1.reply), .sc (.bool x1.auth), .sc (.bool x1.cut), .sc (.bool x1.want), .sc (.bool x1.can), .sc (.int .i64 x1.code), .sc (.string x8.name), .sc (.int .i64 x8.ty), .ref (50, 100) 0 x13.length, .ref (61, 100) 0 x18.length, .ref (72, 100) 0 x23.length]]) rfl rfl rfl rfl ty31 rfl rfl rfl rfl rfl rfl ?_
        refine rt_nil ?_
        refine tri_sr ?_
        refine s_loadR rfl rfl rfl rfl ty33 rfl rfl rfl ?_
        refine s_storeB rfl rfl rfl ty33 rfl rfl rfl rfl rfl ?_
        refine s_mv (.inr rfl) (v := .sc (.bool true)) rfl rfl rfl rfl ?_
        refine rt_nil ?_
        refine tri_ret ?_
        have e0 := (some2 h).1; have e1 := (some2 h).2; subst e0; subst e1
        exact endY (v' := .tup [.agg [.sc (.int .i64 x1.id), .sc (.bool x1.reply), .sc (.bool x1.auth), .sc (.bool x1.cut), .sc (.bool x1.want), .sc (.bool x1.can), .sc (.int .i64 x1.code), .sc (.string x8.name), .sc (.int .i64 x8.ty), .ref (2000, 109) 0 x13.length, .ref (2000, 110) 0 x18.length, .ref (2000, 111) 0 x23.length], .sc (.bool true)]) [((2000, 109), ⟨62, 6, List.map recV x13, false, true⟩, some (50, 100)), ((2000, 110), ⟨62, 6, List.map recV x18, false, true⟩, some (61, 100)), ((2000, 111), ⟨62, 6, List.map recV x23, false, true⟩, some (72, 100))] [] (rvC (resCell rfl rfl ty33) (rvC (resTmp rfl) rvN)) ⟨⟨rfl, _, rfl, rfl, rfl, rfl, id, rowsCv_eq rfl (allFree_map recV_free), rowsZ_map recV_len⟩, ⟨rfl, _, rfl, rfl, rfl, rfl, id, rowsCv_eq rfl (allFree_map recV_free), rowsZ_map recV_len⟩, ⟨rfl, _, rfl, rfl, rfl, rfl, id, rowsCv_eq rfl (allFree_map recV_free), rowsZ_map recV_len⟩, trivial⟩ trivial rfl rfl (by kernel_rfl) (by simp only [V.mat, V.mat1, V.mat0, matL, matT, List.length_map] <;> rfl) (CvL.tup (.cons (CvL.agg (.cons (.free rfl) (.cons (.free rfl) (.cons (.free rfl) (.cons (.free rfl) (.cons (.free rfl) (.cons (.free rfl) (.cons (.free rfl) (.cons (.free rfl) (.cons (.free rfl) (.cons (.ref rfl) (.cons (.ref rfl) (.cons (.ref rfl) .nil))))))))))))) (.cons (.free rfl) .nil)))

/- impl.getBytes -/
def inv_i_getBytes_2 (p0 : List Int) (p1 : Int) (p2 : Int) (p3 : Int) (v2_0 : Int) (v2_1 : Nat) : St := mkT 44 [(3, .sc (.int .i64 p3)), (10, .sc (.int .i64 v2_0)), (28, .lst 1 (List.map byteV ((p0.drop p1.toNat).take ((p1 + p2).toNat - p1.toNat)))), (29, .sc (.int .i64 (((p0.drop p1.toNat).take ((p1 + p2).toNat - p1.toNat)).length : Int))), (30, .sc (.int .i64 (v2_1 : Int)))] []
def inv_i_getBytes_1 (p3 : Int) (j1_0 : Int) : St := mkT 44 [(3, .sc (.int .i64 p3)), (10, .sc (.int .i64 j1_0))] []
def inv_i_getBytes_0 (p0 : List Int) (p1 : Int) (p2 : Int) (p3 : Int) (j0_0 : Bool) : St := mkT 44 [(0, .lst 1 (List.map byteV p0)), (1, .sc (.int .i64 p1)), (2, .sc (.int .i64 p2)), (3, .sc (.int .i64 p3)), (22, .sc (.bool j0_0))] []
set_option maxRecDepth 4000 in
set_option maxHeartbeats 800000 in
theorem wi_getBytes (p0 : List Int) (p1 : Int) (p2 : Int) (p3 : Int) (r0 : Int) (r1 : Bool) (h : i_getBytes p0 p1 p2 p3 = some (r0, r1)) : Runs Tryd.prog 33 [.lst 1 (List.map byteV p0), .sc (.int .i64 p1), .sc (.int .i64 p2), .sc (.int .i64 p3)] [] (.tup [.sc (.int .i64 r0), .sc (.bool r1)]) [] := by
 unfold i_getBytes at h
 refine runsR [.tmp 8, .tmp 9] Tryd.func33 rfl rfl rfl rfl ?_
 rw [Tryd.ntmps33]
 refine tri_sr ?_
 refine s_mv (.inr rfl) (v := .sc (.int .i64 0)) rfl rfl rfl rfl ?_
 refine s_mv (.inr rfl) (v := .sc (.bool false)) rfl rfl rfl rfl ?_
 refine rt_nil ?_
 refine tri_seq ?_
 refine tri_cutI (ι := { p : Bool // i_getBytes_j0 p0 p1 p2 p3 p = some (r0, r1) }) (fun p => inv_i_getBytes_0 p0 p1 p2 p3 p.1) ?_ ?_
 ·skip
  refine tri_region ?_
  refine m1 ?_
  refine s_of (st_lss rfl rfl rfl) rfl rfl rfl rfl ?_
  refine m1 ?_
  refine s_split (t := 15) rfl (fun b1 => ?_) (fun b1 => ?_)
  ·replace h := cond_t h b1
   refine s_skip rfl rfl rfl ?_
   refine s_skip rfl rfl rfl ?_
   refine s_skip rfl rfl rfl ?_
   refine s_skip rfl rfl rfl ?_
   refine s_skip rfl rfl rfl ?_
   refine s_skip rfl rfl rfl ?_
   refine s_pickT rfl rfl (v := .sc (.bool true)) rfl rfl rfl rfl ?_
   refine rt_nil ?_
   refine Exists.intro ⟨true, h⟩ ?_
   refine entX [] [] trivial trivial rfl rfl ?_
   exact ⟨(.free rfl), (.free rfl), (.free rfl), (.free rfl), (.free rfl), trivial⟩
  ·replace h := cond_f h b1
   refine m1 ?_
   refine m1 ?_
   refine s_lenL rfl sl22 rfl rfl rfl rfl ?_
   refine m1 ?_
   refine grd_elim h fun g2 h => ?_
   refine s_subI rfl rfl rfl rfl g2 rfl rfl rfl ?_
   refine s_of (st_gtr rfl rfl rfl) rfl rfl rfl rfl ?_
   refine s_pickF rfl rfl (by conv => lhs; whnf) rfl rfl rfl ?_
   refine rt_nil ?_
   refine Exists.intro ⟨decide ((p0.length : Int) - p2 < p1), h⟩ ?_
   refine entX [] [] trivial trivial rfl rfl ?_
   exact ⟨(.free rfl), (.free rfl), (.free rfl), (.free rfl), (.free rfl), trivial⟩
 ·rintro ⟨j0_0, h⟩
  replace h : i_getBytes_j0 p0 p1 p2 p3 j0_0 = some (r0, r1) := h
  unfold i_getBytes_j0 at h
  show Tri _ _ _ (inv_i_getBytes_0 p0 p1 p2 p3 j0_0)
  refine tri_cond rfl (fun c1 => ?_) (fun c1 => ?_)
  ·replace h := cond_t h c1
   refine tri_sr ?_
   refine s_mv (.inr rfl) (v := .sc (.int .i64 0)) rfl rfl rfl rfl ?_
   refine s_mv (.inr rfl) (v := .sc (.bool false)) rfl rfl rfl rfl ?_
   refine rt_nil ?_
   refine tri_ret ?_
   have e0 := (some2 h).1; have e1 := (some2 h).2; subst e0; subst e1
   exact endY [] [] (rvC (resTmp rfl) (rvC (resTmp rfl) rvN)) trivial trivial rfl rfl rfl rfl (CvL.tup (.cons (.free rfl) (.cons (.free rfl) .nil)))
  ·replace h := cond_f h c1
   refine tri_skip ?_
   refine tri_sr ?_
   refine s_mv (.inr rfl) (v := .sc (.int .i64 0)) rfl rfl rfl rfl ?_
   refine rt_nil ?_
   refine tri_cutI (ι := { p : Int // i_getBytes_j1 p3 p = some (r0, r1) }) (fun p => inv_i_getBytes_1 p3 p.1) ?_ ?_
   ·skip
    refine tri_sr ?_
    refine m1 ?_
    refine m1 ?_
    refine m1 ?_
    refine m1 ?_
    refine grd_elim h fun g2 h => ?_
    refine s_addI rfl rfl rfl rfl g2 rfl rfl rfl ?_
    refine grd_elim h fun g3 h => ?_
    refine s_sliceFZ (a := p1) (b := p1 + p2) rfl rfl sl22 ⟨_, rfl⟩ ⟨_, rfl⟩ g3 rfl rfl rfl ?_
    refine s_lenL rfl sl22 rfl rfl rfl rfl ?_
    refine s_mv (.inl rfl) (v := .sc (.int .i64 0)) rfl rfl rfl rfl ?_
    refine rt_nil ?_
    refine tri_block ?_
    refine tri_lstM 28 rfl (fun hl2 => ?_)
    refine tri_loop (ι := { p : (List Int) × Int × Nat // ((p0.drop p1.toNat).take ((p1 + p2).toNat - p1.toNat)).drop p.2.2 = p.1 ∧ i_getBytes_l2 p3 p.1 p.2.1 p.2.2 = some (r0, r1) }) (fun p => inv_i_getBytes_2 p0 p1 p2 p3 p.1.2.1 p.1.2.2) (fun p => p.1.1.length) ⟨(((p0.drop p1.toNat).take ((p1 + p2).toNat - p1.toNat)), 0, 0), rfl, h⟩ ?_ ?_
    ·skip
     refine entX [] [] trivial trivial rfl rfl ?_
     exact ⟨(.free rfl), (.free rfl), (.free rfl), (.free rfl), (.free rfl), trivial⟩
    ·rintro ⟨⟨lrs2, v2_0, v2_1⟩, hd2, h⟩
     replace hd2 : ((p0.drop p1.toNat).take ((p1 + p2).toNat - p1.toNat)).drop v2_1 = lrs2 := hd2
     replace h : i_getBytes_l2 p3 lrs2 v2_0 v2_1 = some (r0, r1) := h
     show Tri _ _ _ (inv_i_getBytes_2 p0 p1 p2 p3 v2_0 v2_1)
     refine tri_sr ?_
     refine s_of (st_lss rfl rfl rfl) rfl rfl rfl rfl ?_
     refine rt_nil ?_
     refine tri_seq ?_
     refine tri_cond rfl (fun c4 => ?_) (fun c4 => ?_)
     ·refine drop_elim hd2 c4 fun e2 rs2 he hx2 hn2 => ?_
      subst he
      rw [i_getBytes_l2] at h
      refine tri_skip ?_
      refine tri_seq ?_
      refine tri_block ?_
      refine tri_sr ?_
      refine s_indexF (i := v2_1) rfl rfl rfl sl22 (get_ltM hx2) rfl rfl rfl ?_
      refine s_loadF rfl rfl (rowG hx2) ty5 rfl (.inr rfl) (by conv => lhs; whnf) rfl rfl rfl ?_
      refine m2 ?_
      refine rt_nil ?_
      refine tri_region ?_
      refine m1 ?_
      refine grd_elim h fun g5 h => ?_
      refine s_mulI rfl rfl rfl rfl g5 rfl rfl rfl ?_
      refine m1 ?_
      refine s_of (st_conv ik5 ik3 rfl rfl) rfl rfl rfl rfl ?_
      refine grd_elim h fun g6 h => ?_
      refine s_addI rfl rfl rfl rfl g6 rfl rfl rfl ?_
      refine m2 ?_
      refine rt_nil ?_
      refine tri_region ?_
      refine s_inc (a := v2_1) (b := 1) rfl rfl rfl rfl (by have := get_lt hx2; have := hl2; omega) rfl rfl rfl ?_
      refine m1 ?_
      refine rt_nil ?_
      refine Exists.intro ⟨(rs2, (256 * v2_0) + (IntKind.i64.wrap e2), (v2_1 + 1)), hn2, h⟩ (And.intro (Nat.lt_succ_self _) ?_)
      refine entX [] [] trivial trivial rfl rfl ?_
      exact ⟨(.free rfl), (.free rfl), (.free rfl), (.free rfl), (.free rfl), trivial⟩
     ·have he := drop_f hd2 c4; subst he
      rw [i_getBytes_l2] at h
      refine tri_exit ?_
      refine Exists.intro ⟨v2_0, h⟩ ?_
      refine entX [] [] trivial trivial rfl rfl ?_
      exact ⟨(.free rfl), (.free rfl), trivial⟩
   ·rintro ⟨j1_0, h⟩
    replace h : i_getBytes_j1 p3 j1_0 = some (r0, r1) := h
    unfold i_getBytes_j1 at h
    show Tri _ _ _ (inv_i_getBytes_1 p3 j1_0)
    refine tri_seq ?_
    refine tri_sr ?_
    refine m1 ?_
    refine m1 ?_
    refine s_of (st_gtr rfl rfl rfl) rfl rfl rfl rfl ?_
    refine rt_nil ?_
    refine tri_cond rfl (fun c2 => ?_) (fun c2 => ?_)
    ·replace h := cond_t h c2
     refine tri_sr ?_
     refine s_mv (.inr rfl) (v := .sc (.int .i64 0)) rfl rfl rfl rfl ?_
     refine s_mv (.inr rfl) (v := .sc (.bool false)) rfl rfl rfl rfl ?_
     refine rt_nil ?_
     refine tri_ret ?_
     have e0 := (some2 h).1; have e1 := (some2 h).2; subst e0; subst e1
     exact endY [] [] (rvC (resTmp rfl) (rvC (resTmp rfl) rvN)) trivial trivial rfl rfl rfl rfl (CvL.tup (.cons (.free rfl) (.cons (.free rfl) .nil)))
    ·replace h := cond_f h c2
     refine tri_skip ?_
     refine tri_sr ?_
     refine m1 ?_
     refine m2 ?_
     refine s_mv (.inr rfl) (v := .sc (.bool true)) rfl rfl rfl rfl ?_
     refine rt_nil ?_
     refine tri_ret ?_
     have e0 := (some2 h).1; have e1 := (some2 h).2; subst e0; subst e1
     exact endY [] [] (rvC (resTmp rfl) (rvC (resTmp rfl) rvN)) trivial trivial rfl rfl rfl rfl (CvL.tup (.cons (.free rfl) (.cons (.free rfl) .nil)))

/- impl.Get2 -/

set_option maxRecDepth 4000 in
set_option maxHeartbeats 800000 in
theorem wi_Get2 (p0 : List Int) (p1 : Int) (r0 : Int) (r1 : Bool) (h : i_Get2 p0 p1 = some (r0, r1)) : Runs Tryd.prog 20 [.lst 1 (List.map byteV p0), .sc (.int .i64 p1)] [] (.tup [.sc (.int .i64 r0), .sc (.bool r1)]) [] := by
 unfold i_Get2 at h
 refine runsR [.tmp 4, .tmp 5] Tryd.func20 rfl rfl rfl rfl ?_
 rw [Tryd.ntmps20]
 refine tri_sr ?_
 refine s_mv (.inr rfl) (v := .sc (.int .i64 0)) rfl rfl rfl rfl ?_
 refine s_mv (.inr rfl) (v := .sc (.bool false)) rfl rfl rfl rfl ?_
 refine rt_nil ?_
 refine tri_sr ?_
 refine m1 ?_
 refine m1 ?_
 refine bnd2_elim h fun x1 x2 q3 h => ?_
 refine s_callN (kb := []) (ns := []) (v := .tup [.sc (.int .i64 x1), .sc (.bool x2)]) rfl rfl cl33 (wi_getBytes p0 p1 2 65535 x1 x2 q3) rfl (.cons (.free rfl) (.cons (.free rfl) (.cons (.free rfl) (.cons (.free rfl) .nil)))) trivial memNil .nil memNil rfl trivial memNil rfl rfl rfl rfl rfl rfl ?_
 refine s_extract rfl rfl rfl rfl rfl rfl ?_
 refine s_extract rfl rfl rfl rfl rfl rfl ?_
 refine m2 ?_
 refine m2 ?_
 refine rt_nil ?_
 refine tri_ret ?_
 have e0 := (some2 h).1; have e1 := (some2 h).2; subst e0; subst e1
 exact endY [] [] (rvC (resTmp rfl) (rvC (resTmp rfl) rvN)) trivial trivial rfl rfl rfl rfl (CvL.tup (.cons (.free rfl) (.cons (.free rfl) .nil)))

/- impl.GetHead -/
def inv_i_GetHead_0 (p0 : List Int) (x2 : Int) (x4 : Int) (j0_0 : Bool) : St := mkT 91 [(0, .lst 1 (List.map byteV p0)), (2, .ptr (2, 0) 0 0), (7, .sc (.int .i64 (IntKind.i64.wrap x2))), (8, .sc (.int .i64 (IntKind.i64.wrap x4))), (46, .sc (.bool j0_0))] [((2, 0), some ⟨33, 12, [[.sc (.int .i64 0), .sc (.bool false), .sc (.bool false), .sc (.bool false), .sc (.bool false), .sc (.bool false), .sc (.int .i64 0), .sc (.string (⟨#[]⟩ : ByteArray)), .sc (.int .i64 0), .nils, .nils, .nils]], false, true⟩)]
set_option maxRecDepth 4000 in
set_option maxHeartbeats 800000 in
theorem wi_GetHead (p0 : List Int) (r0 : MMsg) (r1 : Int) (r2 : Int) (r3 : Int) (r4 : Bool) (h : i_GetHead p0 = some (r0, r1, r2, r3, r4)) : Runs Tryd.prog 24 [.lst 1 (List.map byteV p0)] [] (.tup [.agg [.sc (.int .i64 r0.id), .sc (.bool r0.reply), .sc (.bool r0.auth), .sc (.bool r0.cut), .sc (.bool r0.want), .sc (.bool r0.can), .sc (.int .i64 r0.code), .sc (.string r0.q.name), .sc (.int .i64 r0.q.ty), .own 62 6 (List.map recV r0.an), .own 62 6 (List.map recV r0.au), .own 62 6 (List.map recV r0.ad)], .sc (.int .i64 r1), .sc (.int .i64 r2), .sc (.int .i64 r3), .sc (.bool r4)]) [] := by
 unfold i_GetHead at h
 refine runsR [.cell 2 33, .tmp 3, .tmp 4, .tmp 5, .tmp 6] Tryd.func24 rfl rfl rfl rfl ?_
 rw [Tryd.ntmps24]
 refine tri_sr ?_
 refine s_alloc rfl rfl rfl zc33 rfl rfl rfl rfl rfl ?_
 refine s_mv (.inr rfl) (v := .sc (.int .i64 0)) rfl rfl rfl rfl ?_
 refine s_mv (.inr rfl) (v := .sc (.int .i64 0)) rfl rfl rfl rfl ?_
 refine s_mv (.inr rfl) (v := .sc (.int .i64 0)) rfl rfl rfl rfl ?_
 refine s_mv (.inr rfl) (v := .sc (.bool false)) rfl rfl rfl rfl ?_
 refine rt_nil ?_
 refine tri_seq ?_
 refine tri_sr ?_
 refine m1 ?_
 refine s_lenL rfl sl22 rfl rfl rfl rfl ?_
 refine s_of (st_lss rfl rfl rfl) rfl rfl rfl rfl ?_
 refine rt_nil ?_
 refine tri_cond rfl (fun c1 => ?_) (fun c1 => ?_)
 ·replace h := cond_t h c1
  refine tri_sr ?_
  refine s_build (cells' := [.sc (.int .i64 0), .sc (.bool false), .sc (.bool false), .sc (.bool false), .sc (.bool false), .sc (.bool false), .sc (.int .i64 0), .sc (.string (⟨#[]⟩ : ByteArray)), .sc (.int .i64 0), .nils, .nils, .nils]) rfl stc33 rfl rfl rfl rfl rfl rfl rfl ?_
  refine s_storeB rfl rfl rfl ty33 rfl rfl rfl rfl rfl ?_
  refine s_mv (.inr rfl) (v := .sc (.int .i64 0)) rfl rfl rfl rfl ?_
  refine s_mv (.inr rfl) (v := .sc (.int .i64 0)) rfl rfl rfl rfl ?_
  refine s_mv (.inr rfl) (v := .sc (.int .i64 0)) rfl rfl rfl rfl ?_
  refine s_mv (.inr rfl) (v := .sc (.bool false)) rfl rfl rfl rfl ?_
  refine rt_nil ?_
  refine tri_ret ?_
  have e0 := (some5 h).1; have e1 := (some5 h).2.1; have e2 := (some5 h).2.2.1; have e3 := (some5 h).2.2.2.1; have e4 := (some5 h).2.2.2.2; subst e0; subst e1; subst e2; subst e3; subst e4
  exact endY (v' := .tup [.agg [.sc (.int .i64 0), .sc (.bool false), .sc (.bool false), .sc (.bool false), .sc (.bool false), .sc (.bool false), .sc (.int .i64 0), .sc (.string (⟨#[]⟩ : ByteArray)), .sc (.int .i64 0), .ref (2000, 109) 0 (([] : List Rec).length), .ref (2000, 110) 0 (([] : List Rec).length), .ref (2000, 111) 0 (([] : List Rec).length)], .sc (.int .i64 0), .sc (.int .i64 0), .sc (.int .i64 0), .sc (.bool false)]) [((2000, 109), ⟨62, 6, List.map recV ([] : List Rec), false, true⟩, none), ((2000, 110), ⟨62, 6, List.map recV ([] : List Rec), false, true⟩, none), ((2000, 111), ⟨62, 6, List.map recV ([] : List Rec), false, true⟩, none)] [] (rvC (resCell rfl rfl ty33) (rvC (resTmp rfl) (rvC (resTmp rfl) (rvC (resTmp rfl) (rvC (resTmp rfl) rvN))))) ⟨rfl, rfl, rfl, trivial⟩ trivial rfl rfl (by kernel_rfl) (by simp only [V.mat, V.mat1, V.mat0, matL, matT, List.length_map] <;> rfl) (CvL.tup (.cons (CvL.agg (.cons (.free rfl) (.cons (.free rfl) (.cons (.free rfl) (.cons (.free rfl) (.cons (.free rfl) (.cons (.free rfl) (.cons (.free rfl) (.cons (.free rfl) (.cons (.free rfl) (.cons (.nilRef rfl) (.cons (.nilRef rfl) (.cons (.nilRef rfl) .nil))))))))))))) (.cons (.free rfl) (.cons (.free rfl) (.cons (.free rfl) (.cons (.free rfl) .nil))))))
 ·replace h := cond_f h c1
  refine tri_skip ?_
  refine tri_seq ?_
  refine tri_draw mixed ?_
  refine m1 ?_
  refine bnd1_elim h fun x2 q3 h => ?_
  have q3a := (idx_some q3).1; have q3b := (idx_some q3).2
  refine s_indexFZ rfl rfl rfl sl22 q3a (get_ltM q3b) rfl rfl rfl ?_
  refine s_loadF rfl rfl (rowG q3b) ty5 rfl (.inr rfl) (by conv => lhs; whnf) rfl rfl rfl ?_
  refine s_of (st_conv ik5 ik3 rfl rfl) rfl rfl rfl rfl ?_
  refine m1 ?_
  refine bnd1_elim h fun x4 q5 h => ?_
  have q5a := (idx_some q5).1; have q5b := (idx_some q5).2
  refine s_indexFZ rfl rfl rfl sl22 q5a (get_ltM q5b) rfl rfl rfl ?_
  refine s_loadF rfl rfl (rowG q5b) ty5 rfl (.inr rfl) (by conv => lhs; whnf) rfl rfl rfl ?_
  refine s_of (st_conv ik5 ik3 rfl rfl) rfl rfl rfl rfl ?_
  refine m2 ?_
  refine m2 ?_
  refine rt_nil ⟨by kernel_rfl, ?_⟩
  refine tri_sr ?_
  refine m1 ?_
  refine bnd2_elim h fun x6 x7 q8 h => ?_
  refine s_callN (kb := []) (ns := []) (v := .tup [.sc (.int .i64 x6), .sc (.bool x7)]) rfl rfl cl20 (wi_Get2 p0 4 x6 x7 q8) rfl (.cons (.free rfl) (.cons (.free rfl) .nil)) trivial memNil .nil memNil rfl trivial memNil rfl rfl rfl rfl rfl rfl ?_
  refine m1 ?_
  refine s_extract rfl rfl rfl rfl rfl rfl ?_
  refine s_extract rfl rfl rfl rfl rfl rfl ?_
  refine m2 ?_
  refine m2 ?_
  refine rt_nil ?_
  refine tri_seq ?_
  refine tri_cutI (ι := { p : Bool // i_GetHead_j0 p0 x2 x4 p = some (r0, r1, r2, r3, r4) }) (fun p => inv_i_GetHead_0 p0 x2 x4 p.1) ?_ ?_
  ·skip
   refine tri_region ?_
   refine m1 ?_
   refine s_of (st_andNotD rfl rfl rfl) rfl rfl rfl rfl ?_
   refine s_of (st_neI rfl rfl rfl) rfl rfl rfl rfl ?_
   refine m1 ?_
   refine s_split (t := 38) rfl (fun b9 => ?_) (fun b9 => ?_)
   ·replace h := cond_t h b9
    refine s_skip rfl rfl rfl ?_
    refine s_skip rfl rfl rfl ?_
    refine s_skip rfl rfl rfl ?_
    refine s_pickT rfl rfl (v := .sc (.bool true)) rfl rfl rfl rfl ?_
    refine m1 ?_
    refine s_skip rfl rfl rfl ?_
    refine s_skip rfl rfl rfl ?_
    refine s_pickT rfl rfl (v := .sc (.bool true)) rfl rfl rfl rfl ?_
    refine rt_nil ?_
    refine Exists.intro ⟨true, h⟩ ?_
    refine entX [((2, 0), ⟨33, 12, [[.sc (.int .i64 0), .sc (.bool false), .sc (.bool false), .sc (.bool false), .sc (.bool false), .sc (.bool false), .sc (.int .i64 0), .sc (.string (⟨#[]⟩ : ByteArray)), .sc (.int .i64 0), .nils, .nils, .nils]], false, true⟩, some (2, 0))] [] ⟨⟨rfl, _, rfl, rfl, rfl, rfl, id, rowsCv_one (.cons (.free rfl) (.cons (.free rfl) (.cons (.free rfl) (.cons (.free rfl) (.cons (.free rfl) (.cons (.free rfl) (.cons (.free rfl) (.cons (.free rfl) (.cons (.free rfl) (.cons (.free rfl) (.cons (.free rfl) (.cons (.free rfl) .nil)))))))))))), rowsZ_one rfl⟩, trivial⟩ trivial rfl rfl ?_
    exact ⟨(.free rfl), (.ptr rfl), (.free rfl), (.free rfl), (.free rfl), trivial⟩
   ·replace h := cond_f h b9
    refine m1 ?_
    refine s_of (st_andNotD rfl rfl rfl) rfl rfl rfl rfl ?_
    refine s_of (st_neI rfl rfl rfl) rfl rfl rfl rfl ?_
    refine s_pickF rfl rfl (by conv => lhs; whnf) rfl rfl rfl ?_
    refine m1 ?_
    refine s_split (t := 43) rfl (fun b10 => ?_) (fun b10 => ?_)
    ·replace h := cond_t h b10
     refine s_skip rfl rfl rfl ?_
     refine s_skip rfl rfl rfl ?_
     refine s_pickT rfl rfl (v := .sc (.bool true)) rfl rfl rfl rfl ?_
     refine rt_nil ?_
     refine Exists.intro ⟨true, h⟩ ?_
     refine entX [((2, 0), ⟨33, 12, [[.sc (.int .i64 0), .sc (.bool false), .sc (.bool false), .sc (.bool false), .sc (.bool false), .sc (.bool false), .sc (.int .i64 0), .sc (.string (⟨#[]⟩ : ByteArray)), .sc (.int .i64 0), .nils, .nils, .nils]], false, true⟩, some (2, 0))] [] ⟨⟨rfl, _, rfl, rfl, rfl, rfl, id, rowsCv_one (.cons (.free rfl) (.cons (.free rfl) (.cons (.free rfl) (.cons (.free rfl) (.cons (.free rfl) (.cons (.free rfl) (.cons (.free rfl) (.cons (.free rfl) (.cons (.free rfl) (.cons (.free rfl) (.cons (.free rfl) (.cons (.free rfl) .nil)))))))))))), rowsZ_one rfl⟩, trivial⟩ trivial rfl rfl ?_
     exact ⟨(.free rfl), (.ptr rfl), (.free rfl), (.free rfl), (.free rfl), trivial⟩
    ·replace h := cond_f h b10
     refine m1 ?_
     refine s_of (st_neI rfl rfl rfl) rfl rfl rfl rfl ?_
     refine s_pickF rfl rfl (by conv => lhs; whnf) rfl rfl rfl ?_
     refine rt_nil ?_
     refine Exists.intro ⟨!decide (x6 = 1), h⟩ ?_
     refine entX [((2, 0), ⟨33, 12, [[.sc (.int .i64 0), .sc (.bool false), .sc (.bool false), .sc (.bool false), .sc (.bool false), .sc (.bool false), .sc (.int .i64 0), .sc (.string (⟨#[]⟩ : ByteArray)), .sc (.int .i64 0), .nils, .nils, .nils]], false, true⟩, some (2, 0))] [] ⟨⟨rfl, _, rfl, rfl, rfl, rfl, id, rowsCv_one (.cons (.free rfl) (.cons (.free rfl) (.cons (.free rfl) (.cons (.free rfl) (.cons (.free rfl) (.cons (.free rfl) (.cons (.free rfl) (.cons (.free rfl) (.cons (.free rfl) (.cons (.free rfl) (.cons (.free rfl) (.cons (.free rfl) .nil)))))))))))), rowsZ_one rfl⟩, trivial⟩ trivial rfl rfl ?_
     exact ⟨(.free rfl), (.ptr rfl), (.free rfl), (.free rfl), (.free rfl), trivial⟩
  ·rintro ⟨j0_0, h⟩
   replace h : i_GetHead_j0 p0 x2 x4 j0_0 = some (r0, r1, r2, r3, r4) := h
   unfold i_GetHead_j0 at h
   show Tri _ _ _ (inv_i_GetHead_0 p0 x2 x4 j0_0)
   refine tri_cond rfl (fun c9 => ?_) (fun c9 => ?_)
   ·replace h := cond_t h c9
    refine tri_sr ?_
    refine s_build (cells' := [.sc (.int .i64 0), .sc (.bool false), .sc (.bool false), .sc (.bool false), .sc (.bool false), .sc (.bool false), .sc (.int .i64 0), .sc (.string (⟨#[]⟩ : ByteArray)), .sc (.int .i64 0), .nils, .nils, .nils]) rfl stc33 rfl rfl rfl rfl rfl rfl rfl ?_
    refine s_storeB rfl rfl rfl ty33 rfl rfl rfl rfl rfl ?_
    refine s_mv (.inr rfl) (v := .sc (.int .i64 0)) rfl rfl rfl rfl ?_
    refine s_mv (.inr rfl) (v := .sc (.int .i64 0)) rfl rfl rfl rfl ?_
    refine s_mv (.inr rfl) (v := .sc (.int .i64 0)) rfl rfl rfl rfl ?_
    refine s_mv (.inr rfl) (v := .sc (.bool false)) rfl rfl rfl rfl ?_
    refine rt_nil ?_
    refine tri_ret ?_
    have e0 := (some5 h).1; have e1 := (some5 h).2.1; have e2 := (some5 h).2.2.1; have e3 := (some5 h).2.2.2.1; have e4 := (some5 h).2.2.2.2; subst e0; subst e1; subst e2; subst e3; subst e4
    exact endY (v' := .tup [.agg [.sc (.int .i64 0), .sc (.bool false), .sc (.bool false), .sc (.bool false), .sc (.bool false), .sc (.bool false), .sc (.int .i64 0), .sc (.string (⟨#[]⟩ : ByteArray)), .sc (.int .i64 0), .ref (2000, 109) 0 (([] : List Rec).length), .ref (2000, 110) 0 (([] : List Rec).length), .ref (2000, 111) 0 (([] : List Rec).length)], .sc (.int .i64 0), .sc (.int .i64 0), .sc (.int .i64 0), .sc (.bool false)]) [((2000, 109), ⟨62, 6, List.map recV ([] : List Rec), false, true⟩, none), ((2000, 110), ⟨62, 6, List.map recV ([] : List Rec), false, true⟩, none), ((2000, 111), ⟨62, 6, List.map recV ([] : List Rec), false, true⟩, none)] [] (rvC (resCell rfl rfl ty33) (rvC (resTmp rfl) (rvC (resTmp rfl) (rvC (resTmp rfl) (rvC (resTmp rfl) rvN))))) ⟨rfl, rfl, rfl, trivial⟩ trivial rfl rfl (by kernel_rfl) (by simp only [V.mat, V.mat1, V.mat0, matL, matT, List.length_map] <;> rfl) (CvL.tup (.cons (CvL.agg (.cons (.free rfl) (.cons (.free rfl) (.cons (.free rfl) (.cons (.free rfl) (.cons (.free rfl) (.cons (.free rfl) (.cons (.free rfl) (.cons (.free rfl) (.cons (.free rfl) (.cons (.nilRef rfl) (.cons (.nilRef rfl) (.cons (.nilRef rfl) .nil))))))))))))) (.cons (.free rfl) (.cons (.free rfl) (.cons (.free rfl) (.cons (.free rfl) .nil))))))
   ·replace h := cond_f h c9
    refine tri_skip ?_
    refine tri_sr ?_
    refine m1 ?_
    refine s_of (st_andD rfl rfl rfl) rfl rfl rfl rfl ?_
    refine s_of (st_neI rfl rfl rfl) rfl rfl rfl rfl ?_
    refine m1 ?_
    refine s_of (st_andD rfl rfl rfl) rfl rfl rfl rfl ?_
    refine s_of (st_neI rfl rfl rfl) rfl rfl rfl rfl ?_
    refine m1 ?_
    refine s_of (st_andD rfl rfl rfl) rfl rfl rfl rfl ?_
    refine s_of (st_neI rfl rfl rfl) rfl rfl rfl rfl ?_
    refine m1 ?_
    refine s_of (st_andD rfl rfl rfl) rfl rfl rfl rfl ?_
    refine s_of (st_neI rfl rfl rfl) rfl rfl rfl rfl ?_
    refine m1 ?_
    refine s_of (st_andD rfl rfl rfl) rfl rfl rfl rfl ?_
    refine s_of (st_neI rfl rfl rfl) rfl rfl rfl rfl ?_
    refine m1 ?_
    refine s_of (st_andD rfl rfl rfl) rfl rfl rfl rfl ?_
    refine s_build (cells' := [.sc (.int .i64 0), .sc (.bool (!decide (iand .i64 (IntKind.i64.wrap x2) 128 = 0))), .sc (.bool (!decide (iand .i64 (IntKind.i64.wrap x2) 4 = 0))), .sc (.bool (!decide (iand .i64 (IntKind.i64.wrap x2) 2 = 0))), .sc (.bool (!decide (iand .i64 (IntKind.i64.wrap x2) 1 = 0))), .sc (.bool (!decide (iand .i64 (IntKind.i64.wrap x4) 128 = 0))), .sc (.int .i64 (iand .i64 (IntKind.i64.wrap x4) 15)), .sc (.string (⟨#[]⟩ : ByteArray)), .sc (.int .i64 0), .nils, .nils, .nils]) rfl stc33 rfl rfl rfl (by kernel_rfl) rfl rfl rfl ?_
    refine s_alloc rfl rfl rfl zc33 rfl rfl rfl rfl rfl ?_
    refine s_storeB rfl rfl rfl ty33 rfl rfl rfl rfl rfl ?_
    refine rt_nil ?_
    refine tri_sr ?_
    refine m1 ?_
    refine bnd2_elim h fun x10 x11 q12 h => ?_
    refine s_callN (kb := []) (ns := []) (v := .tup [.sc (.int .i64 x10), .sc (.bool x11)]) rfl rfl cl20 (wi_Get2 p0 0 x10 x11 q12) rfl (.cons (.free rfl) (.cons (.free rfl) .nil)) trivial memNil .nil memNil rfl trivial memNil rfl rfl rfl rfl rfl rfl ?_
    refine m1 ?_
    refine s_extract rfl rfl rfl rfl rfl rfl ?_
    refine s_extract rfl rfl rfl rfl rfl rfl ?_
    refine s_fieldAddr rfl rfl fd33_0 rfl rfl rfl rfl ?_
    refine s_store (rows' := [[.sc (.int .i64 x10), .sc (.bool (!decide (iand .i64 (IntKind.i64.wrap x2) 128 = 0))), .sc (.bool (!decide (iand .i64 (IntKind.i64.wrap x2) 4 = 0))), .sc (.bool (!decide (iand .i64 (IntKind.i64.wrap x2) 2 = 0))), .sc (.bool (!decide (iand .i64 (IntKind.i64.wrap x2) 1 = 0))), .sc (.bool (!decide (iand .i64 (IntKind.i64.wrap x4) 128 = 0))), .sc (.int .i64 (iand .i64 (IntKind.i64.wrap x4) 15)), .sc (.string (⟨#[]⟩ : ByteArray)), .sc (.int .i64 0), .nils, .nils, .nils]]) rfl rfl rfl rfl ty3 rfl rfl rfl rfl rfl rfl ?_
    refine rt_nil ?_
    refine tri_sr ?_
    refine m1 ?_
    refine bnd2_elim h fun x13 x14 q15 h => ?_
    refine s_callN (kb := []) (ns := []) (v := .tup [.sc (.int .i64 x13), .sc (.bool x14)]) rfl rfl cl20 (wi_Get2 p0 6 x13 x14 q15) rfl (.cons (.free rfl) (.cons (.free rfl) .nil)) trivial memNil .nil memNil rfl trivial memNil rfl rfl rfl rfl rfl rfl ?_
    refine m1 ?_
    refine s_extract rfl rfl rfl rfl rfl rfl ?_
    refine s_extract rfl rfl rfl rfl rfl rfl ?_
    refine m2 ?_
    refine m2 ?_
    refine rt_nil ?_
    refine tri_sr ?_
    refine m1 ?_
    refine bnd2_elim h fun x16 x17 q18 h => ?_
    refine s_callN (kb := []) (ns := []) (v := .tup [.sc (.int .i64 x16), .sc (.bool x17)]) rfl rfl cl20 (wi_Get2 p0 8 x16 x17 q18) rfl (.cons (.free rfl) (.cons (.free rfl) .nil)) trivial memNil .nil memNil rfl trivial memNil rfl rfl rfl rfl rfl rfl ?_
    refine m1 ?_
    refine s_extract rfl rfl rfl rfl rfl rfl ?_
    refine s_extract rfl rfl rfl rfl rfl rfl ?_
    refine m2 ?_
    refine m2 ?_
    refine rt_nil ?_
    refine tri_sr ?_
    refine m1 ?_
    refine bnd2_elim h fun x19 x20 q21 h => ?_
    refine s_callN (kb := []) (ns := []) (v := .tup [.sc (.int .i64 x19), .sc (.bool x20)]) rfl rfl cl20 (wi_Get2 p0 10 x19 x20 q21) rfl (.cons (.free rfl) (.cons (.free rfl) .nil)) trivial memNil .nil memNil rfl trivial memNil rfl rfl rfl rfl rfl rfl ?_
    refine m1 ?_
    refine s_extract rfl rfl rfl rfl rfl rfl ?_
    refine s_extract rfl rfl rfl rfl rfl rfl ?_
    refine m2 ?_
    refine m2 ?_
    refine rt_nil ?_
    refine tri_sr ?_
    refine s_loadR rfl rfl rfl rfl ty33 rfl rfl rfl ?_
    refine m1 ?_
    refine m1 ?_
    refine m1 ?_
    refine s_storeB rfl rfl rfl ty33 rfl rfl rfl rfl rfl ?_
    refine m2 ?_
    refine m2 ?_
    refine m2 ?_
    refine s_mv (.inr rfl) (v := .sc (.bool true)) rfl rfl rfl rfl ?_
    refine rt_nil ?_
    refine tri_ret ?_
    have e0 := (some5 h).1; have e1 := (some5 h).2.1; have e2 := (some5 h).2.2.1; have e3 := (some5 h).2.2.2.1; have e4 := (some5 h).2.2.2.2; subst e0; subst e1; subst e2; subst e3; subst e4
    exact endY (v' := .tup [.agg [.sc (.int .i64 x10), .sc (.bool (!decide (iand .i64 (IntKind.i64.wrap x2) 128 = 0))), .sc (.bool (!decide (iand .i64 (IntKind.i64.wrap x2) 4 = 0))), .sc (.bool (!decide (iand .i64 (IntKind.i64.wrap x2) 2 = 0))), .sc (.bool (!decide (iand .i64 (IntKind.i64.wrap x2) 1 = 0))), .sc (.bool (!decide (iand .i64 (IntKind.i64.wrap x4) 128 = 0))), .sc (.int .i64 (iand .i64 (IntKind.i64.wrap x4) 15)), .sc (.string (⟨#[]⟩ : ByteArray)), .sc (.int .i64 0), .ref (2000, 109) 0 (([] : List Rec).length), .ref (2000, 110) 0 (([] : List Rec).length), .ref (2000, 111) 0 (([] : List Rec).length)], .sc (.int .i64 x13), .sc (.int .i64 x16), .sc (.int .i64 x19), .sc (.bool true)]) [((2000, 109), ⟨62, 6, List.map recV ([] : List Rec), false, true⟩, none), ((2000, 110), ⟨62, 6, List.map recV ([] : List Rec), false, true⟩, none), ((2000, 111), ⟨62, 6, List.map recV ([] : List Rec), false, true⟩, none)] [] (rvC (resCell rfl rfl ty33) (rvC (resTmp rfl) (rvC (resTmp rfl) (rvC (resTmp rfl) (rvC (resTmp rfl) rvN))))) ⟨rfl, rfl, rfl, trivial⟩ trivial rfl rfl (by kernel_rfl) (by simp only [V.mat, V.mat1, V.mat0, matL, matT, List.length_map] <;> rfl) (CvL.tup (.cons (CvL.agg (.cons (.free rfl) (.cons (.free rfl) (.cons (.free rfl) (.cons (.free rfl) (.cons (.free rfl) (.cons (.free rfl) (.cons (.free rfl) (.cons (.free rfl) (.cons (.free rfl) (.cons (.nilRef rfl) (.cons (.nilRef rfl) (.cons (.nilRef rfl) .nil))))))))))))) (.cons (.free rfl) (.cons (.free rfl) (.cons (.free rfl) (.cons (.free rfl) .nil))))))

/- strings.Join -/

theorem wstrings_Join (p0 : List ByteArray) (p1 : ByteArray) (r0 : ByteArray) (h : strings_Join p0 p1 = some r0) : Runs Tryd.prog 59 [.lst 1 (List.map strV p0), .sc (.string p1)] [] (.sc (.string r0)) [] := by
 unfold strings_Join at h
 refine grd_elim h fun g h => ?_
 have e0 := (some1 h); subst e0
 exact runs_join (g := joinB) (fun a c w _ => Any.strings_Join_none Tryd.lays156 Tryd.extra156 a c p1 w) (fun bk o c w hc hb hl _ => Any.strings_Join Tryd.lays156 Tryd.extra156 bk o c p0 p1 w hc hb g.1 hl g.2)

/- impl.JoinLabels -/

set_option maxRecDepth 4000 in
set_option maxHeartbeats 800000 in
theorem wi_JoinLabels (p0 : List ByteArray) (r0 : ByteArray) (h : i_JoinLabels p0 = some r0) : Runs Tryd.prog 44 [.lst 1 (List.map strV p0)] [] (.sc (.string r0)) [] := by
 unfold i_JoinLabels at h
 refine runsR [.tmp 2] Tryd.func44 rfl rfl rfl rfl ?_
 rw [Tryd.ntmps44]
 refine tri_sr ?_
 refine s_mv (.inr rfl) (v := .sc (.string (⟨#[]⟩ : ByteArray))) rfl rfl rfl rfl ?_
 refine rt_nil ?_
 refine tri_sr ?_
 refine m1 ?_
 refine bnd1_elim h fun x1 q2 h => ?_
 refine s_callN (kb := []) (ns := []) (v := .sc (.string x1)) rfl rfl cl59 (wstrings_Join p0 (⟨#[46]⟩ : ByteArray) x1 q2) rfl (.cons (.free rfl) (.cons (.free rfl) .nil)) trivial memNil .nil memNil rfl trivial memNil rfl rfl rfl rfl rfl rfl ?_
 refine m2 ?_
 refine rt_nil ?_
 refine tri_ret ?_
 have e0 := (some1 h); subst e0
 exact endY [] [] (rvC (resTmp rfl) rvN) trivial trivial rfl rfl rfl rfl (.free rfl)

/- impl.Fold -/
def inv_i_Fold_2 (p0 : ByteArray) (v1_0 : List Int) (v1_1 : Nat) (x3 : Int) (j2_0 : Bool) : St := mkT 30 [(3, .ref (7, 0) 0 v1_0.length), (4, .sc (.int .i64 (v1_1 : Int))), (5, .sc (.int .u8 x3)), (8, .ref (7, 0) 0 v1_0.length), (9, .sc (.int .i64 ((bytesOf p0).length : Int))), (10, .sc (.int .i64 (v1_1 : Int))), (20, .sc (.bool j2_0))] [((7, 0), some ⟨5, 1, List.map byteV v1_0, true, true⟩)]
def inv_i_Fold_1 (p0 : ByteArray) (v1_0 : List Int) (v1_1 : Nat) : St := mkT 30 [(3, .ref (7, 0) 0 v1_0.length), (8, .ref (7, 0) 0 v1_0.length), (9, .sc (.int .i64 ((bytesOf p0).length : Int))), (10, .sc (.int .i64 (v1_1 : Int)))] [((7, 0), some ⟨5, 1, List.map byteV v1_0, true, true⟩)]
def inv_i_Fold_0  (j0_0 : List Int) : St := mkT 30 [(3, .ref (7, 0) 0 j0_0.length)] [((7, 0), some ⟨5, 1, List.map byteV j0_0, true, true⟩)]
set_option maxRecDepth 4000 in
set_option maxHeartbeats 800000 in
theorem wi_Fold (p0 : ByteArray) (r0 : ByteArray) (h : i_Fold p0 = some r0) : Runs Tryd.prog 60 [.sc (.string p0)] [] (.sc (.string r0)) [] := by
 unfold i_Fold at h
 refine runsR [.tmp 2] Tryd.func60 rfl rfl rfl rfl ?_
 rw [Tryd.ntmps60]
 refine tri_sr ?_
 refine s_mv (.inr rfl) (v := .sc (.string (⟨#[]⟩ : ByteArray))) rfl rfl rfl rfl ?_
 refine rt_nil ?_
 refine tri_sr ?_
 refine m1 ?_
 refine grd_elim h fun g1 h => ?_
 refine s_toBytesL rfl rfl rfl rfl iss9 byt22 g1 rfl rfl ?_
 refine m2 ?_
 refine rt_nil ?_
 refine tri_cutI (ι := { p : (List Int) // i_Fold_j0 p = some r0 }) (fun p => inv_i_Fold_0 p.1) ?_ ?_
 ·skip
  refine tri_sr ?_
  refine m1 ?_
  refine s_len (m := (bytesOf p0).length) rfl sl22 rfl rfl rfl rfl ?_
  refine s_mv (.inl rfl) (v := .sc (.int .i64 0)) rfl rfl rfl rfl ?_
  refine rt_nil ?_
  refine tri_block ?_
  refine tri_ownM (7, 0) rfl (fun hl1 => ?_)
  refine tri_loop (ι := { p : (List Int) × (List Int) × Nat // (bytesOf p0).drop p.2.2 = p.1 ∧ i_Fold_l1 p.1 p.2.1 p.2.2 = some r0 }) (fun p => inv_i_Fold_1 p0 p.1.2.1 p.1.2.2) (fun p => p.1.1.length) ⟨((bytesOf p0), bytesOf p0, 0), rfl, h⟩ ?_ ?_
  ·skip
   refine entX [((7, 0), ⟨5, 1, List.map byteV (bytesOf p0), true, true⟩, some (7, 0))] [] ⟨⟨rfl, _, rfl, rfl, rfl, rfl, id, rowsCv_eq rfl (allFree_map byteV_free), rowsZ_map byteV_len⟩, trivial⟩ trivial rfl rfl ?_
   exact ⟨(.ref rfl), (.ref rfl), (.free rfl), (.free rfl), trivial⟩
  ·rintro ⟨⟨lrs1, v1_0, v1_1⟩, hd1, h⟩
   replace hd1 : (bytesOf p0).drop v1_1 = lrs1 := hd1
   replace h : i_Fold_l1 lrs1 v1_0 v1_1 = some r0 := h
   show Tri _ _ _ (inv_i_Fold_1 p0 v1_0 v1_1)
   refine tri_sr ?_
   refine s_of (st_lss rfl rfl rfl) rfl rfl rfl rfl ?_
   refine rt_nil ?_
   refine tri_seq ?_
   refine tri_cond rfl (fun c2 => ?_) (fun c2 => ?_)
   ·refine drop_elim hd1 c2 fun e1 rs1 he hx1 hn1 => ?_
    subst he
    rw [i_Fold_l1] at h
    refine tri_skip ?_
    refine tri_seq ?_
    refine tri_block ?_
    refine tri_sr ?_
    refine m1 ?_
    refine bnd1_elim h fun x3 q4 h => ?_
    have q4a := (idx_some q4).1; have q4b := (idx_some q4).2
    refine s_indexZ rfl rfl rfl rfl sl22 rfl q4a (get_lt q4b) rfl rfl rfl ?_
    refine s_load rfl rfl rfl (rowG q4b) ty5 rfl (.inr rfl) (by conv => lhs; whnf) rfl rfl rfl ?_
    refine m2 ?_
    refine m2 ?_
    refine rt_nil ?_
    refine tri_cutI (ι := { p : Bool // i_Fold_j2 v1_0 v1_1 x3 (i_Fold_l1 rs1) p = some r0 }) (fun p => inv_i_Fold_2 p0 v1_0 v1_1 x3 p.1) ?_ ?_
    ·skip
     refine tri_region ?_
     refine m1 ?_
     refine s_of (st_geq rfl rfl rfl) rfl rfl rfl rfl ?_
     refine m1 ?_
     refine s_split (t := 17) rfl (fun b5 => ?_) (fun b5 => ?_)
     ·replace h := cond_t h b5
      refine m1 ?_
      refine s_of (st_leq rfl rfl rfl) rfl rfl rfl rfl ?_
      refine s_pickT rfl rfl (by conv => lhs; whnf) rfl rfl rfl ?_
      refine rt_nil ?_
      refine Exists.intro ⟨decide (x3 ≤ 90), h⟩ ?_
      refine entX [((7, 0), ⟨5, 1, List.map byteV v1_0, true, true⟩, some (7, 0))] [] ⟨⟨rfl, _, rfl, rfl, rfl, rfl, id, rowsCv_eq rfl (allFree_map byteV_free), rowsZ_map byteV_len⟩, trivial⟩ trivial rfl rfl ?_
      exact ⟨(.ref rfl), (.free rfl), (.free rfl), (.ref rfl), (.free rfl), (.free rfl), (.free rfl), trivial⟩
     ·replace h := cond_f h b5
      refine s_skip rfl rfl rfl ?_
      refine s_skip rfl rfl rfl ?_
      refine s_pickF rfl rfl (v := .sc (.bool false)) rfl rfl rfl rfl ?_
      refine rt_nil ?_
      refine Exists.intro ⟨false, h⟩ ?_
      refine entX [((7, 0), ⟨5, 1, List.map byteV v1_0, true, true⟩, some (7, 0))] [] ⟨⟨rfl, _, rfl, rfl, rfl, rfl, id, rowsCv_eq rfl (allFree_map byteV_free), rowsZ_map byteV_len⟩, trivial⟩ trivial rfl rfl ?_
      exact ⟨(.ref rfl), (.free rfl), (.free rfl), (.ref rfl), (.free rfl), (.free rfl), (.free rfl), trivial⟩
    ·rintro ⟨j2_0, h⟩
     replace h : i_Fold_j2 v1_0 v1_1 x3 (i_Fold_l1 rs1) j2_0 = some r0 := h
     unfold i_Fold_j2 at h
     show Tri _ _ _ (inv_i_Fold_2 p0 v1_0 v1_1 x3 j2_0)
     refine tri_cond rfl (fun c5 => ?_) (fun c5 => ?_)
     ·replace h := cond_t h c5
      refine tri_region ?_
      refine m1 ?_
      refine m1 ?_
      refine m1 ?_
      refine s_of (st_add rfl rfl rfl) rfl rfl rfl rfl ?_
      refine s_of (st_sub rfl rfl rfl) rfl rfl rfl rfl ?_
      refine s_indexZ rfl rfl rfl rfl sl22 rfl q4a (get_lt q4b) rfl rfl rfl ?_
      refine s_storeL (x' := IntKind.u8.wrap ((IntKind.u8.wrap (x3 + 97)) - 65)) rfl rfl rfl q4b ty5 rfl rfl rfl rfl rfl rfl ?_
      refine rt_nil ?_
      refine tri_region ?_
      refine s_inc (a := v1_1) (b := 1) rfl rfl rfl rfl (by have := get_lt hx1; have := hl1; omega) rfl rfl rfl ?_
      refine m1 ?_
      refine rt_nil ?_
      refine Exists.intro ⟨(rs1, v1_0.set ((v1_1 : Int).toNat) (IntKind.u8.wrap ((IntKind.u8.wrap (x3 + 97)) - 65)), (v1_1 + 1)), hn1, h⟩ (And.intro (Nat.lt_succ_self _) ?_)
      refine entX [((7, 0), ⟨5, 1, List.map byteV (v1_0.set ((v1_1 : Int).toNat) (IntKind.u8.wrap ((IntKind.u8.wrap (x3 + 97)) - 65))), true, true⟩, some (7, 0))] [] ⟨⟨rfl, _, rfl, rfl, rfl, rfl, id, rowsCv_eq rfl (allFree_map byteV_free), rowsZ_map byteV_len⟩, trivial⟩ trivial rfl rfl ?_
      exact ⟨(cvRefLen rfl (by simp only [List.length_set])), (cvRefLen rfl (by simp only [List.length_set])), (.free rfl), (.free rfl), trivial⟩
     ·replace h := cond_f h c5
      refine tri_skip ?_
      refine tri_region ?_
      refine s_inc (a := v1_1) (b := 1) rfl rfl rfl rfl (by have := get_lt hx1; have := hl1; omega) rfl rfl rfl ?_
      refine m1 ?_
      refine rt_nil ?_
      refine Exists.intro ⟨(rs1, v1_0, (v1_1 + 1)), hn1, h⟩ (And.intro (Nat.lt_succ_self _) ?_)
      refine entX [((7, 0), ⟨5, 1, List.map byteV v1_0, true, true⟩, some (7, 0))] [] ⟨⟨rfl, _, rfl, rfl, rfl, rfl, id, rowsCv_eq rfl (allFree_map byteV_free), rowsZ_map byteV_len⟩, trivial⟩ trivial rfl rfl ?_
      exact ⟨(.ref rfl), (.ref rfl), (.free rfl), (.free rfl), trivial⟩
   ·have he := drop_f hd1 c2; subst he
    rw [i_Fold_l1] at h
    refine tri_exit ?_
    refine Exists.intro ⟨v1_0, h⟩ ?_
    refine entX [((7, 0), ⟨5, 1, List.map byteV v1_0, true, true⟩, some (7, 0))] [] ⟨⟨rfl, _, rfl, rfl, rfl, rfl, id, rowsCv_eq rfl (allFree_map byteV_free), rowsZ_map byteV_len⟩, trivial⟩ trivial rfl rfl ?_
    exact ⟨(.ref rfl), trivial⟩
 ·rintro ⟨j0_0, h⟩
  replace h : i_Fold_j0 j0_0 = some r0 := h
  unfold i_Fold_j0 at h
  show Tri _ _ _ (inv_i_Fold_0 j0_0)
  refine tri_sr ?_
  refine m1 ?_
  refine s_toString rfl (src_refL rfl rfl) byt22 iss9 rfl rfl rfl rfl ?_
  refine m2 ?_
  refine rt_nil ?_
  refine tri_ret ?_
  have e0 := (some1 h); subst e0
  exact endY [] [] (rvC (resTmp rfl) rvN) trivial trivial rfl rfl rfl rfl (.free rfl)

/- impl.LabelOk -/
def inv_i_LabelOk_2 (p0 : ByteArray) (v1_0 : Int) (j2_0 : Bool) : St := mkT 44 [(0, .sc (.string p0)), (6, .sc (.int .i64 (p0.size : Int))), (7, .sc (.int .i64 v1_0)), (34, .sc (.bool j2_0))] []
def inv_i_LabelOk_1 (p0 : ByteArray) (v1_0 : Int) : St := mkT 44 [(0, .sc (.string p0)), (6, .sc (.int .i64 (p0.size : Int))), (7, .sc (.int .i64 v1_0))] []
def inv_i_LabelOk_0 (p0 : ByteArray) : St := mkT 44 [(0, .sc (.string p0))] []
set_option maxRecDepth 4000 in
set_option maxHeartbeats 800000 in
theorem wi_LabelOk (p0 : ByteArray) (r0 : Bool) (h : i_LabelOk p0 = some r0) : Runs Tryd.prog 49 [.sc (.string p0)] [] (.sc (.bool r0)) [] := by
 unfold i_LabelOk at h
 refine runsR [.tmp 2] Tryd.func49 rfl rfl rfl rfl ?_
 rw [Tryd.ntmps49]
 refine tri_sr ?_
 refine s_mv (.inr rfl) (v := .sc (.bool false)) rfl rfl rfl rfl ?_
 refine rt_nil ?_
 refine tri_cutI (ι := { p : Unit // i_LabelOk_j0 p0 = some r0 }) (fun p => inv_i_LabelOk_0 p0) ?_ ?_
 ·skip
  refine tri_sr ?_
  refine m1 ?_
  refine s_of (st_lenS rfl rfl iss9) rfl rfl rfl rfl ?_
  refine s_mv (.inl rfl) (v := .sc (.int .i64 0)) rfl rfl rfl rfl ?_
  refine rt_nil ?_
  refine tri_block ?_
  refine tri_loop (ι := { p : Nat × Int // i_LabelOk_l1 p0 p.1 p.2 = some r0 }) (fun p => inv_i_LabelOk_1 p0 p.1.2) (fun p => p.1.1) ⟨(fuel0, 0), h⟩ ?_ ?_
  ·skip
   refine entX [] [] trivial trivial rfl rfl ?_
   exact ⟨(.free rfl), (.free rfl), (.free rfl), trivial⟩
  ·rintro ⟨⟨f1, v1_0⟩, h⟩
   replace h : i_LabelOk_l1 p0 f1 v1_0 = some r0 := h
   cases f1 with
   | zero => cases h
   | succ f1 =>
   rw [i_LabelOk_l1] at h
   show Tri _ _ _ (inv_i_LabelOk_1 p0 v1_0)
   refine tri_sr ?_
   refine s_of (st_lss rfl rfl rfl) rfl rfl rfl rfl ?_
   refine rt_nil ?_
   refine tri_seq ?_
   refine tri_cond rfl (fun c1 => ?_) (fun c1 => ?_)
   ·replace h := cond_t h c1
    refine tri_skip ?_
    refine tri_seq ?_
    refine tri_block ?_
    refine tri_sr ?_
    refine m1 ?_
    refine m2 ?_
    refine rt_nil ?_
    refine tri_sr ?_
    refine m1 ?_
    refine m1 ?_
    refine bnd1_elim h fun x2 q3 h => ?_
    refine s_idxS rfl rfl rfl iss9 q3 rfl rfl rfl ?_
    refine m2 ?_
    refine rt_nil ?_
    refine tri_cutI (ι := { p : Bool // i_LabelOk_j2 v1_0 (i_LabelOk_l1 p0 f1) p = some r0 }) (fun p => inv_i_LabelOk_2 p0 v1_0 p.1) ?_ ?_
    ·skip
     refine tri_region ?_
     refine m1 ?_
     refine s_of (st_lss rfl rfl rfl) rfl rfl rfl rfl ?_
     refine m1 ?_
     refine s_split (t := 15) rfl (fun b4 => ?_) (fun b4 => ?_)
     ·replace h := cond_t h b4
      refine s_skip rfl rfl rfl ?_
      refine s_skip rfl rfl rfl ?_
      refine s_pickT rfl rfl (v := .sc (.bool true)) rfl rfl rfl rfl ?_
      refine m1 ?_
      refine m1 ?_
      refine s_of (st_lss rfl rfl rfl) rfl rfl rfl rfl ?_
      refine m1 ?_
      refine s_split (t := 22) rfl (fun b5 => ?_) (fun b5 => ?_)
      ·replace h := cond_t h b5
       refine s_skip rfl rfl rfl ?_
       refine s_skip rfl rfl rfl ?_
       refine s_pickT rfl rfl (v := .sc (.bool true)) rfl rfl rfl rfl ?_
       refine s_pickT rfl rfl (by conv => lhs; whnf) rfl rfl rfl ?_
       refine m1 ?_
       refine m1 ?_
       refine s_of (st_neI rfl rfl rfl) rfl rfl rfl rfl ?_
       refine s_pickT rfl rfl (by conv => lhs; whnf) rfl rfl rfl ?_
       refine m1 ?_
       refine s_split (t := 31) rfl (fun b6 => ?_) (fun b6 => ?_)
       ·replace h := cond_t h b6
        refine m1 ?_
        refine s_of (st_neI rfl rfl rfl) rfl rfl rfl rfl ?_
        refine s_pickT rfl rfl (by conv => lhs; whnf) rfl rfl rfl ?_
        refine rt_nil ?_
        refine Exists.intro ⟨!decide (x2 = 95), h⟩ ?_
        refine entX [] [] trivial trivial rfl rfl ?_
        exact ⟨(.free rfl), (.free rfl), (.free rfl), (.free rfl), trivial⟩
       ·replace h := cond_f h b6
        refine s_skip rfl rfl rfl ?_
        refine s_skip rfl rfl rfl ?_
        refine s_pickF rfl rfl (v := .sc (.bool false)) rfl rfl rfl rfl ?_
        refine rt_nil ?_
        refine Exists.intro ⟨false, h⟩ ?_
        refine entX [] [] trivial trivial rfl rfl ?_
        exact ⟨(.free rfl), (.free rfl), (.free rfl), (.free rfl), trivial⟩
      ·replace h := cond_f h b5
       refine m1 ?_
       refine s_of (st_gtr rfl rfl rfl) rfl rfl rfl rfl ?_
       refine s_pickF rfl rfl (by conv => lhs; whnf) rfl rfl rfl ?_
       refine s_pickT rfl rfl (by conv => lhs; whnf) rfl rfl rfl ?_
       refine m1 ?_
       refine s_split (t := 27) rfl (fun b7 => ?_) (fun b7 => ?_)
       ·replace h := cond_t h b7
        refine m1 ?_
        refine s_of (st_neI rfl rfl rfl) rfl rfl rfl rfl ?_
        refine s_pickT rfl rfl (by conv => lhs; whnf) rfl rfl rfl ?_
        refine m1 ?_
        refine s_split (t := 31) rfl (fun b8 => ?_) (fun b8 => ?_)
        ·replace h := cond_t h b8
         refine m1 ?_
         refine s_of (st_neI rfl rfl rfl) rfl rfl rfl rfl ?_
         refine s_pickT rfl rfl (by conv => lhs; whnf) rfl rfl rfl ?_
         refine rt_nil ?_
         refine Exists.intro ⟨!decide (x2 = 95), h⟩ ?_
         refine entX [] [] trivial trivial rfl rfl ?_
         exact ⟨(.free rfl), (.free rfl), (.free rfl), (.free rfl), trivial⟩
        ·replace h := cond_f h b8
         refine s_skip rfl rfl rfl ?_
         refine s_skip rfl rfl rfl ?_
         refine s_pickF rfl rfl (v := .sc (.bool false)) rfl rfl rfl rfl ?_
         refine rt_nil ?_
         refine Exists.intro ⟨false, h⟩ ?_
         refine entX [] [] trivial trivial rfl rfl ?_
         exact ⟨(.free rfl), (.free rfl), (.free rfl), (.free rfl), trivial⟩
       ·replace h := cond_f h b7
        refine s_skip rfl rfl rfl ?_
        refine s_skip rfl rfl rfl ?_
        refine s_pickF rfl rfl (v := .sc (.bool false)) rfl rfl rfl rfl ?_
        refine m1 ?_
        refine s_skip rfl rfl rfl ?_
        refine s_skip rfl rfl rfl ?_
        refine s_pickF rfl rfl (v := .sc (.bool false)) rfl rfl rfl rfl ?_
        refine rt_nil ?_
        refine Exists.intro ⟨false, h⟩ ?_
        refine entX [] [] trivial trivial rfl rfl ?_
        exact ⟨(.free rfl), (.free rfl), (.free rfl), (.free rfl), trivial⟩
     ·replace h := cond_f h b4
      refine m1 ?_
      refine s_of (st_gtr rfl rfl rfl) rfl rfl rfl rfl ?_
      refine s_pickF rfl rfl (by conv => lhs; whnf) rfl rfl rfl ?_
      refine m1 ?_
      refine s_split (t := 19) rfl (fun b9 => ?_) (fun b9 => ?_)
      ·replace h := cond_t h b9
       refine m1 ?_
       refine s_of (st_lss rfl rfl rfl) rfl rfl rfl rfl ?_
       refine m1 ?_
       refine s_split (t := 22) rfl (fun b10 => ?_) (fun b10 => ?_)
       ·replace h := cond_t h b10
        refine s_skip rfl rfl rfl ?_
        refine s_skip rfl rfl rfl ?_
        refine s_pickT rfl rfl (v := .sc (.bool true)) rfl rfl rfl rfl ?_
        refine s_pickT rfl rfl (by conv => lhs; whnf) rfl rfl rfl ?_
        refine m1 ?_
        refine m1 ?_
        refine s_of (st_neI rfl rfl rfl) rfl rfl rfl rfl ?_
        refine s_pickT rfl rfl (by conv => lhs; whnf) rfl rfl rfl ?_
        refine m1 ?_
        refine s_split (t := 31) rfl (fun b11 => ?_) (fun b11 => ?_)
        ·replace h := cond_t h b11
         refine m1 ?_
         refine s_of (st_neI rfl rfl rfl) rfl rfl rfl rfl ?_
         refine s_pickT rfl rfl (by conv => lhs; whnf) rfl rfl rfl ?_
         refine rt_nil ?_
         refine Exists.intro ⟨!decide (x2 = 95), h⟩ ?_
         refine entX [] [] trivial trivial rfl rfl ?_
         exact ⟨(.free rfl), (.free rfl), (.free rfl), (.free rfl), trivial⟩
        ·replace h := cond_f h b11
         refine s_skip rfl rfl rfl ?_
         refine s_skip rfl rfl rfl ?_
         refine s_pickF rfl rfl (v := .sc (.bool false)) rfl rfl rfl rfl ?_
         refine rt_nil ?_
         refine Exists.intro ⟨false, h⟩ ?_
         refine entX [] [] trivial trivial rfl rfl ?_
         exact ⟨(.free rfl), (.free rfl), (.free rfl), (.free rfl), trivial⟩
       ·replace h := cond_f h b10
        refine m1 ?_
        refine s_of (st_gtr rfl rfl rfl) rfl rfl rfl rfl ?_
        refine s_pickF rfl rfl (by conv => lhs; whnf) rfl rfl rfl ?_
        refine s_pickT rfl rfl (by conv => lhs; whnf) rfl rfl rfl ?_
        refine m1 ?_
        refine s_split (t := 27) rfl (fun b12 => ?_) (fun b12 => ?_)
        ·replace h := cond_t h b12
         refine m1 ?_
         refine s_of (st_neI rfl rfl rfl) rfl rfl rfl rfl ?_
         refine s_pickT rfl rfl (by conv => lhs; whnf) rfl rfl rfl ?_
         refine m1 ?_
         refine s_split (t := 31) rfl (fun b13 => ?_) (fun b13 => ?_)
         ·replace h := cond_t h b13
          refine m1 ?_
          refine s_of (st_neI rfl rfl rfl) rfl rfl rfl rfl ?_
          refine s_pickT rfl rfl (by conv => lhs; whnf) rfl rfl rfl ?_
          refine rt_nil ?_
          refine Exists.intro ⟨!decide (x2 = 95), h⟩ ?_
          refine entX [] [] trivial trivial rfl rfl ?_
          exact ⟨(.free rfl), (.free rfl), (.free rfl), (.free rfl), trivial⟩
         ·replace h := cond_f h b13
          refine s_skip rfl rfl rfl ?_
          refine s_skip rfl rfl rfl ?_
          refine s_pickF rfl rfl (v := .sc (.bool false)) rfl rfl rfl rfl ?_
          refine rt_nil ?_
          refine Exists.intro ⟨false, h⟩ ?_
          refine entX [] [] trivial trivial rfl rfl ?_
          exact ⟨(.free rfl), (.free rfl), (.free rfl), (.free rfl), trivial⟩
        ·replace h := cond_f h b12
         refine s_skip rfl rfl rfl ?_
         refine s_skip rfl rfl rfl ?_
         refine s_pickF rfl rfl (v := .sc (.bool false)) rfl rfl rfl rfl ?_
         refine m1 ?_
         refine s_skip rfl rfl rfl ?_
         refine s_skip rfl rfl rfl ?_
         refine s_pickF rfl rfl (v := .sc (.bool false)) rfl rfl rfl rfl ?_
         refine rt_nil ?_
         refine Exists.intro ⟨false, h⟩ ?_
         refine entX [] [] trivial trivial rfl rfl ?_
         exact ⟨(.free rfl), (.free rfl), (.free rfl), (.free rfl), trivial⟩
      ·replace h := cond_f h b9
       refine s_skip rfl rfl rfl ?_
       refine s_skip rfl rfl rfl ?_
       refine s_skip rfl rfl rfl ?_
       refine s_skip rfl rfl rfl ?_
       refine s_skip rfl rfl rfl ?_
       refine s_skip rfl rfl rfl ?_
       refine s_pickF rfl rfl (v := .sc (.bool false)) rfl rfl rfl rfl ?_
       refine m1 ?_
       refine s_skip rfl rfl rfl ?_
       refine s_skip rfl rfl rfl ?_
       refine s_pickF rfl rfl (v := .sc (.bool false)) rfl rfl rfl rfl ?_
       refine m1 ?_
       refine s_skip rfl rfl rfl ?_
       refine s_skip rfl rfl rfl ?_
       refine s_pickF rfl rfl (v := .sc (.bool false)) rfl rfl rfl rfl ?_
       refine rt_nil ?_
       refine Exists.intro ⟨false, h⟩ ?_
       refine entX [] [] trivial trivial rfl rfl ?_
       exact ⟨(.free rfl), (.free rfl), (.free rfl), (.free rfl), trivial⟩
    ·rintro ⟨j2_0, h⟩
     replace h : i_LabelOk_j2 v1_0 (i_LabelOk_l1 p0 f1) j2_0 = some r0 := h
     unfold i_LabelOk_j2 at h
     show Tri _ _ _ (inv_i_LabelOk_2 p0 v1_0 j2_0)
     refine tri_cond rfl (fun c4 => ?_) (fun c4 => ?_)
     ·replace h := cond_t h c4
      refine tri_sr ?_
      refine s_mv (.inr rfl) (v := .sc (.bool false)) rfl rfl rfl rfl ?_
      refine rt_nil ?_
      refine tri_ret ?_
      have e0 := (some1 h); subst e0
      exact endY [] [] (rvC (resTmp rfl) rvN) trivial trivial rfl rfl rfl rfl (.free rfl)
     ·replace h := cond_f h c4
      refine tri_skip ?_
      refine tri_region ?_
      refine grd_elim h fun g5 h => ?_
      refine s_addI rfl rfl rfl rfl g5 rfl rfl rfl ?_
      refine m1 ?_
      refine rt_nil ?_
      refine Exists.intro ⟨(f1, v1_0 + 1), h⟩ (And.intro (Nat.lt_succ_self _) ?_)
      refine entX [] [] trivial trivial rfl rfl ?_
      exact ⟨(.free rfl), (.free rfl), (.free rfl), trivial⟩
   ·replace h := cond_f h c1
    refine tri_exit ?_
    refine Exists.intro ⟨(), h⟩ ?_
    refine entX [] [] trivial trivial rfl rfl ?_
    exact ⟨(.free rfl), trivial⟩
 ·rintro ⟨u, h⟩
  replace h : i_LabelOk_j0 p0 = some r0 := h
  unfold i_LabelOk_j0 at h
  show Tri _ _ _ (inv_i_LabelOk_0 p0)
  refine tri_sr ?_
  refine m1 ?_
  refine s_of (st_lenS rfl rfl iss9) rfl rfl rfl rfl ?_
  refine s_of (st_geq rfl rfl rfl) rfl rfl rfl rfl ?_
  refine m1 ?_
  refine s_split (t := 39) rfl (fun b1 => ?_) (fun b1 => ?_)
  ·replace h := cond_t h b1
   refine m1 ?_
   refine s_of (st_lenS rfl rfl iss9) rfl rfl rfl rfl ?_
   refine s_of (st_leq rfl rfl rfl) rfl rfl rfl rfl ?_
   refine s_pickT rfl rfl (by conv => lhs; whnf) rfl rfl rfl ?_
   refine m2 ?_
   refine rt_nil ?_
   refine tri_ret ?_
   have e0 := (some1 h); subst e0
   exact endY [] [] (rvC (resTmp rfl) rvN) trivial trivial rfl rfl rfl rfl (.free rfl)
  ·replace h := cond_f h b1
   refine s_skip rfl rfl rfl ?_
   refine s_skip rfl rfl rfl ?_
   refine s_skip rfl rfl rfl ?_
   refine s_pickF rfl rfl (v := .sc (.bool false)) rfl rfl rfl rfl ?_
   refine m2 ?_
   refine rt_nil ?_
   refine tri_ret ?_
   have e0 := (some1 h); subst e0
   exact endY [] [] (rvC (resTmp rfl) rvN) trivial trivial rfl rfl rfl rfl (.free rfl)

/- impl.GetLabel -/
def inv_i_GetLabel_0 (p0 : List Int) (p1 : Int) (j0_0 : Bool) : St := mkT 56 [(0, .lst 1 (List.map byteV p0)), (1, .sc (.int .i64 p1)), (35, .sc (.bool j0_0))] []
set_option maxRecDepth 4000 in
set_option maxHeartbeats 800000 in
theorem wi_GetLabel (p0 : List Int) (p1 : Int) (r0 : ByteArray) (r1 : Int) (r2 : Bool) (h : i_GetLabel p0 p1 = some (r0, r1, r2)) : Runs Tryd.prog 45 [.lst 1 (List.map byteV p0), .sc (.int .i64 p1)] [] (.tup [.sc (.string r0), .sc (.int .i64 r1), .sc (.bool r2)]) [] := by
 unfold i_GetLabel at h
 refine runsR [.tmp 4, .tmp 5, .tmp 6] Tryd.func45 rfl rfl rfl rfl ?_
 rw [Tryd.ntmps45]
 refine tri_sr ?_
 refine s_mv (.inr rfl) (v := .sc (.string (⟨#[]⟩ : ByteArray))) rfl rfl rfl rfl ?_
 refine s_mv (.inr rfl) (v := .sc (.int .i64 0)) rfl rfl rfl rfl ?_
 refine s_mv (.inr rfl) (v := .sc (.bool false)) rfl rfl rfl rfl ?_
 refine rt_nil ?_
 refine tri_seq ?_
 refine tri_cutI (ι := { p : Bool // i_GetLabel_j0 p0 p1 p = some (r0, r1, r2) }) (fun p => inv_i_GetLabel_0 p0 p1 p.1) ?_ ?_
 ·skip
  refine tri_region ?_
  refine m1 ?_
  refine s_of (st_lss rfl rfl rfl) rfl rfl rfl rfl ?_
  refine m1 ?_
  refine s_split (t := 11) rfl (fun b1 => ?_) (fun b1 => ?_)
  ·replace h := cond_t h b1
   refine s_skip rfl rfl rfl ?_
   refine s_skip rfl rfl rfl ?_
   refine s_skip rfl rfl rfl ?_
   refine s_skip rfl rfl rfl ?_
   refine s_pickT rfl rfl (v := .sc (.bool true)) rfl rfl rfl rfl ?_
   refine m1 ?_
   refine s_skip rfl rfl rfl ?_
   refine s_skip rfl rfl rfl ?_
   refine s_skip rfl rfl rfl ?_
   refine s_skip rfl rfl rfl ?_
   refine s_skip rfl rfl rfl ?_
   refine s_pickT rfl rfl (v := .sc (.bool true)) rfl rfl rfl rfl ?_
   refine m1 ?_
   refine s_skip rfl rfl rfl ?_
   refine s_skip rfl rfl rfl ?_
   refine s_skip rfl rfl rfl ?_
   refine s_skip rfl rfl rfl ?_
   refine s_skip rfl rfl rfl ?_
   refine s_skip rfl rfl rfl ?_
   refine s_skip rfl rfl rfl ?_
   refine s_skip rfl rfl rfl ?_
   refine s_skip rfl rfl rfl ?_
   refine s_skip rfl rfl rfl ?_
   refine s_pickT rfl rfl (v := .sc (.bool true)) rfl rfl rfl rfl ?_
   refine rt_nil ?_
   refine Exists.intro ⟨true, h⟩ ?_
   refine entX [] [] trivial trivial rfl rfl ?_
   exact ⟨(.free rfl), (.free rfl), (.free rfl), trivial⟩
  ·replace h := cond_f h b1
   refine m1 ?_
   refine m1 ?_
   refine s_lenL rfl sl22 rfl rfl rfl rfl ?_
   refine s_of (st_geq rfl rfl rfl) rfl rfl rfl rfl ?_
   refine s_pickF rfl rfl (by conv => lhs; whnf) rfl rfl rfl ?_
   refine m1 ?_
   refine s_split (t := 17) rfl (fun b2 => ?_) (fun b2 => ?_)
   ·replace h := cond_t h b2
    refine s_skip rfl rfl rfl ?_
    refine s_skip rfl rfl rfl ?_
    refine s_skip rfl rfl rfl ?_
    refine s_skip rfl rfl rfl ?_
    refine s_skip rfl rfl rfl ?_
    refine s_pickT rfl rfl (v := .sc (.bool true)) rfl rfl rfl rfl ?_
    refine m1 ?_
    refine s_skip rfl rfl rfl ?_
    refine s_skip rfl rfl rfl ?_
    refine s_skip rfl rfl rfl ?_
    refine s_skip rfl rfl rfl ?_
    refine s_skip rfl rfl rfl ?_
    refine s_skip rfl rfl rfl ?_
    refine s_skip rfl rfl rfl ?_
    refine s_skip rfl rfl rfl ?_
    refine s_skip rfl rfl rfl ?_
    refine s_skip rfl rfl rfl ?_
    refine s_pickT rfl rfl (v := .sc (.bool true)) rfl rfl rfl rfl ?_
    refine rt_nil ?_
    refine Exists.intro ⟨true, h⟩ ?_
    refine entX [] [] trivial trivial rfl rfl ?_
    exact ⟨(.free rfl), (.free rfl), (.free rfl), trivial⟩
   ·replace h := cond_f h b2
    refine m1 ?_
    refine m1 ?_
    refine bnd1_elim h fun x3 q4 h => ?_
    have q4a := (idx_some q4).1; have q4b := (idx_some q4).2
    refine s_indexFZ rfl rfl rfl sl22 q4a (get_ltM q4b) rfl rfl rfl ?_
    refine s_loadF rfl rfl (rowG q4b) ty5 rfl (.inr rfl) (by conv => lhs; whnf) rfl rfl rfl ?_
    refine s_of (st_gtr rfl rfl rfl) rfl rfl rfl rfl ?_
    refine s_pickF rfl rfl (by conv => lhs; whnf) rfl rfl rfl ?_
    refine m1 ?_
    refine s_split (t := 24) rfl (fun b5 => ?_) (fun b5 => ?_)
    ·replace h := cond_t h b5
     refine s_skip rfl rfl rfl ?_
     refine s_skip rfl rfl rfl ?_
     refine s_skip rfl rfl rfl ?_
     refine s_skip rfl rfl rfl ?_
     refine s_skip rfl rfl rfl ?_
     refine s_skip rfl rfl rfl ?_
     refine s_skip rfl rfl rfl ?_
     refine s_skip rfl rfl rfl ?_
     refine s_skip rfl rfl rfl ?_
     refine s_skip rfl rfl rfl ?_
     refine s_pickT rfl rfl (v := .sc (.bool true)) rfl rfl rfl rfl ?_
     refine rt_nil ?_
     refine Exists.intro ⟨true, h⟩ ?_
     refine entX [] [] trivial trivial rfl rfl ?_
     exact ⟨(.free rfl), (.free rfl), (.free rfl), trivial⟩
    ·replace h := cond_f h b5
     refine m1 ?_
     refine m1 ?_
     refine s_indexFZ rfl rfl rfl sl22 q4a (get_ltM q4b) rfl rfl rfl ?_
     refine s_loadF rfl rfl (rowG q4b) ty5 rfl (.inr rfl) (by conv => lhs; whnf) rfl rfl rfl ?_
     refine s_of (st_conv ik5 ik3 rfl rfl) rfl rfl rfl rfl ?_
     refine m1 ?_
     refine s_lenL rfl sl22 rfl rfl rfl rfl ?_
     refine m1 ?_
     refine grd_elim h fun g6 h => ?_
     refine s_subI rfl rfl rfl rfl g6 rfl rfl rfl ?_
     refine s_of (st_geq rfl rfl rfl) rfl rfl rfl rfl ?_
     refine s_pickF rfl rfl (by conv => lhs; whnf) rfl rfl rfl ?_
     refine rt_nil ?_
     refine Exists.intro ⟨decide ((p0.length : Int) - p1 ≤ IntKind.i64.wrap x3), h⟩ ?_
     refine entX [] [] trivial trivial rfl rfl ?_
     exact ⟨(.free rfl), (.free rfl), (.free rfl), trivial⟩
 ·rintro ⟨j0_0, h⟩
  replace h : i_GetLabel_j0 p0 p1 j0_0 = some (r0, r1, r2) := h
  unfold i_GetLabel_j0 at h
  show Tri _ _ _ (inv_i_GetLabel_0 p0 p1 j0_0)
  refine tri_cond rfl (fun c1 => ?_) (fun c1 => ?_)
  ·replace h := cond_t h c1
   refine tri_sr ?_
   refine s_mv (.inr rfl) (v := .sc (.string (⟨#[]⟩ : ByteArray))) rfl rfl rfl rfl ?_
   refine s_mv (.inr rfl) (v := .sc (.int .i64 0)) rfl rfl rfl rfl ?_
   refine s_mv (.inr rfl) (v := .sc (.bool false)) rfl rfl rfl rfl ?_
   refine rt_nil ?_
   refine tri_ret ?_
   have e0 := (some3 h).1; have e1 := (some3 h).2.1; have e2 := (some3 h).2.2; subst e0; subst e1; subst e2
   exact endY [] [] (rvC (resTmp rfl) (rvC (resTmp rfl) (rvC (resTmp rfl) rvN))) trivial trivial rfl rfl rfl rfl (CvL.tup (.cons (.free rfl) (.cons (.free rfl) (.cons (.free rfl) .nil))))
  ·replace h := cond_f h c1
   refine tri_skip ?_
   refine tri_sr ?_
   refine m1 ?_
   refine grd_elim h fun g2 h => ?_
   refine s_addI rfl rfl rfl rfl g2 rfl rfl rfl ?_
   refine m1 ?_
   refine m1 ?_
   refine bnd1_elim h fun x3 q4 h => ?_
   have q4a := (idx_some q4).1; have q4b := (idx_some q4).2
   refine s_indexFZ rfl rfl rfl sl22 q4a (get_ltM q4b) rfl rfl rfl ?_
   refine s_loadF rfl rfl (rowG q4b) ty5 rfl (.inr rfl) (by conv => lhs; whnf) rfl rfl rfl ?_
   refine s_of (st_conv ik5 ik3 rfl rfl) rfl rfl rfl rfl ?_
   refine grd_elim h fun g5 h => ?_
   refine s_addI rfl rfl rfl rfl g5 rfl rfl rfl ?_
   refine m2 ?_
   refine rt_nil ?_
   refine tri_sr ?_
   refine m1 ?_
   refine m1 ?_
   refine grd_elim h fun g6 h => ?_
   refine s_addI rfl rfl rfl rfl g6 rfl rfl rfl ?_
   refine m1 ?_
   refine grd_elim h fun g7 h => ?_
   refine s_sliceFZ (a := p1 + 1) (b := (p1 + 1) + (IntKind.i64.wrap x3)) rfl rfl sl22 ⟨_, rfl⟩ ⟨_, rfl⟩ g7 rfl rfl rfl ?_
   refine s_toString rfl src_lst byt22 iss9 rfl rfl rfl rfl ?_
   refine bnd1_elim h fun x8 q9 h => ?_
   refine s_callN (kb := []) (ns := []) (v := .sc (.string x8)) rfl rfl cl60 (wi_Fold (strOfNums ((p0.drop (p1 + 1).toNat).take (((p1 + 1) + (IntKind.i64.wrap x3)).toNat - (p1 + 1).toNat))) x8 q9) rfl (.cons (.free rfl) .nil) trivial memNil .nil memNil rfl trivial memNil rfl rfl rfl rfl rfl rfl ?_
   refine m2 ?_
   refine rt_nil ?_
   refine tri_seq ?_
   refine tri_sr ?_
   refine m1 ?_
   refine bnd1_elim h fun x10 q11 h => ?_
   refine s_callN (kb := []) (ns := []) (v := .sc (.bool x10)) rfl rfl cl49 (wi_LabelOk x8 x10 q11) rfl (.cons (.free rfl) .nil) trivial memNil .nil memNil rfl trivial memNil rfl rfl rfl rfl rfl rfl ?_
   refine s_of (st_not rfl rfl) rfl rfl rfl rfl ?_
   refine rt_nil ?_
   refine tri_cond rfl (fun c12 => ?_) (fun c12 => ?_)
   ·replace h := cond_t h c12
    refine tri_sr ?_
    refine s_mv (.inr rfl) (v := .sc (.string (⟨#[]⟩ : ByteArray))) rfl rfl rfl rfl ?_
    refine s_mv (.inr rfl) (v := .sc (.int .i64 0)) rfl rfl rfl rfl ?_
    refine s_mv (.inr rfl) (v := .sc (.bool false)) rfl rfl rfl rfl ?_
    refine rt_nil ?_
    refine tri_ret ?_
    have e0 := (some3 h).1; have e1 := (some3 h).2.1; have e2 := (some3 h).2.2; subst e0; subst e1; subst e2
    exact endY [] [] (rvC (resTmp rfl) (rvC (resTmp rfl) (rvC (resTmp rfl) rvN))) trivial trivial rfl rfl rfl rfl (CvL.tup (.cons (.free rfl) (.cons (.free rfl) (.cons (.free rfl) .nil))))
   ·replace h := cond_f h c12
    refine tri_skip ?_
    refine tri_sr ?_
    refine m1 ?_
    refine m1 ?_
    refine m2 ?_
    refine m2 ?_
    refine s_mv (.inr rfl) (v := .sc (.bool true)) rfl rfl rfl rfl ?_
    refine rt_nil ?_
    refine tri_ret ?_
    have e0 := (some3 h).1; have e1 := (some3 h).2.1; have e2 := (some3 h).2.2; subst e0; subst e1; subst e2
    exact endY [] [] (rvC (resTmp rfl) (rvC (resTmp rfl) (rvC (resTmp rfl) rvN))) trivial trivial rfl rfl rfl rfl (CvL.tup (.cons (.free rfl) (.cons (.free rfl) (.cons (.free rfl) .nil))))

/- stringslite.IndexByte -/

set_option maxRecDepth 4000 in
set_option maxHeartbeats 800000 in
theorem winternal_stringslite_IndexByte (p0 : ByteArray) (p1 : Int) (r0 : Int) (h : internal_stringslite_IndexByte p0 p1 = some r0) : Runs Tryd.prog 83 [.sc (.string p0), .sc (.int .u8 p1)] [] (.sc (.int .i64 r0)) [] := by
 unfold internal_stringslite_IndexByte at h
 refine runsR [.tmp 4] Tryd.func83 rfl rfl rfl rfl ?_
 rw [Tryd.ntmps83]
 refine tri_sr ?_
 refine s_mv (.inr rfl) (v := .sc (.int .i64 0)) rfl rfl rfl rfl ?_
 refine rt_nil ?_
 refine tri_sr ?_
 refine m1 ?_
 refine m1 ?_
 refine s_idxByteString rfl rfl rfl Tryd.func87 (by kernel_rfl) (by kernel_rfl) (by kernel_rfl) (by kernel_rfl) rfl rfl rfl ?_
 refine m2 ?_
 refine rt_nil ?_
 refine tri_ret ?_
 have e0 := (some1 h); subst e0
 exact endY [] [] (rvC (resTmp rfl) rvN) trivial trivial rfl rfl rfl rfl (.free rfl)

/- stringslite.Index -/
def inv_internal_stringslite_Index_0 (p0 : ByteArray) (p1 : ByteArray) (j0_0 : Bool) : St := mkT 143 [(0, .sc (.string p0)), (1, .sc (.string p1)), (5, .sc (.int .i64 (p1.size : Int))), (16, .sc (.bool j0_0))] []
set_option maxRecDepth 4000 in
set_option maxHeartbeats 800000 in
theorem winternal_stringslite_Index (p0 : ByteArray) (p1 : ByteArray) (r0 : Int) (h : internal_stringslite_Index p0 p1 = some r0) : Runs Tryd.prog 81 [.sc (.string p0), .sc (.string p1)] [] (.sc (.int .i64 r0)) [] := by
 unfold internal_stringslite_Index at h
 refine runsR [.tmp 4] Tryd.func81 rfl rfl rfl rfl ?_
 rw [Tryd.ntmps81]
 refine tri_sr ?_
 refine s_mv (.inr rfl) (v := .sc (.int .i64 0)) rfl rfl rfl rfl ?_
 refine rt_nil ?_
 refine tri_sr ?_
 refine m1 ?_
 refine s_of (st_lenS rfl rfl iss9) rfl rfl rfl rfl ?_
 refine m2 ?_
 refine rt_nil ?_
 refine tri_seq ?_
 refine tri_block ?_
 refine tri_cutI (ι := { p : Bool // internal_stringslite_Index_j0 p0 p1 p = some r0 }) (fun p => inv_internal_stringslite_Index_0 p0 p1 p.1) ?_ ?_
 ·skip
  refine tri_region ?_
  refine m1 ?_
  refine s_of (st_eqI rfl rfl rfl) rfl rfl rfl rfl ?_
  refine m1 ?_
  refine s_split (t := 19) rfl (fun b1 => ?_) (fun b1 => ?_)
  ·replace h := cond_t h b1
   refine s_skip rfl rfl rfl ?_
   refine s_skip rfl rfl rfl ?_
   refine s_skip rfl rfl rfl ?_
   refine s_pickT rfl rfl (v := .sc (.bool true)) rfl rfl rfl rfl ?_
   refine m2 ?_
   refine rt_nil ?_
   refine Exists.intro ⟨true, h⟩ ?_
   refine entX [] [] trivial trivial rfl rfl ?_
   exact ⟨(.free rfl), (.free rfl), (.free rfl), (.free rfl), trivial⟩
  ·replace h := cond_f h b1
   refine m1 ?_
   refine m1 ?_
   refine s_of (st_eqS rfl rfl rfl) rfl rfl rfl rfl ?_
   refine s_pickF rfl rfl (by conv => lhs; whnf) rfl rfl rfl ?_
   refine m2 ?_
   refine rt_nil ?_
   refine Exists.intro ⟨decide (p1 = p0), h⟩ ?_
   refine entX [] [] trivial trivial rfl rfl ?_
   exact ⟨(.free rfl), (.free rfl), (.free rfl), (.free rfl), trivial⟩
 ·rintro ⟨j0_0, h⟩
  replace h : internal_stringslite_Index_j0 p0 p1 j0_0 = some r0 := h
  unfold internal_stringslite_Index_j0 at h
  show Tri _ _ _ (inv_internal_stringslite_Index_0 p0 p1 j0_0)
  refine tri_cond rfl (fun c1 => ?_) (fun c1 => ?_)
  ·replace h := cond_t h c1
   refine tri_sr ?_
   refine s_mv (.inr rfl) (v := .sc (.int .i64 0)) rfl rfl rfl rfl ?_
   refine rt_nil ?_
   refine tri_ret ?_
   have e0 := (some1 h); subst e0
   exact endY [] [] (rvC (resTmp rfl) rvN) trivial trivial rfl rfl rfl rfl (.free rfl)
  ·replace h := cond_f h c1
   refine tri_sr ?_
   refine m1 ?_
   refine s_of (st_eqI rfl rfl rfl) rfl rfl rfl rfl ?_
   refine m2 ?_
   refine rt_nil ?_
   refine tri_cond rfl (fun c2 => ?_) (fun c2 => ?_)
   ·replace h := cond_t h c2
    refine tri_sr ?_
    refine m1 ?_
    refine m1 ?_
    refine bnd1_elim h fun x3 q4 h => ?_
    refine s_idxS rfl rfl rfl iss9 q4 rfl rfl rfl ?_
    refine bnd1_elim h fun x5 q6 h => ?_
    refine s_callN (kb := []) (ns := []) (v := .sc (.int .i64 x5)) rfl rfl cl83 (winternal_stringslite_IndexByte p0 x3 x5 q6) rfl (.cons (.free rfl) (.cons (.free rfl) .nil)) trivial memNil .nil memNil rfl trivial memNil rfl rfl rfl rfl rfl rfl ?_
    refine m2 ?_
    refine rt_nil ?_
    refine tri_ret ?_
    have e0 := (some1 h); subst e0
    exact endY [] [] (rvC (resTmp rfl) rvN) trivial trivial rfl rfl rfl rfl (.free rfl)
   ·replace h := cond_f h c2
    refine tri_sr ?_
    refine m1 ?_
    refine m1 ?_
    refine s_of (st_lenS rfl rfl iss9) rfl rfl rfl rfl ?_
    refine s_of (st_geq rfl rfl rfl) rfl rfl rfl rfl ?_
    refine m2 ?_
    refine rt_nil ?_
    refine tri_cond rfl (fun c7 => ?_) (fun c7 => ?_)
    ·replace h := cond_t h c7
     refine tri_sr ?_
     refine s_mv (.inr rfl) (v := .sc (.int .i64 (-1))) rfl rfl rfl rfl ?_
     refine rt_nil ?_
     refine tri_ret ?_
     have e0 := (some1 h); subst e0
     exact endY [] [] (rvC (resTmp rfl) rvN) trivial trivial rfl rfl rfl rfl (.free rfl)
    ·replace h := cond_f h c7
     refine tri_sr ?_
     refine m1 ?_
     cases h

/- strings.Index -/

set_option maxRecDepth 4000 in
set_option maxHeartbeats 800000 in
theorem wstrings_Index (p0 : ByteArray) (p1 : ByteArray) (r0 : Int) (h : strings_Index p0 p1 = some r0) : Runs Tryd.prog 75 [.sc (.string p0), .sc (.string p1)] [] (.sc (.int .i64 r0)) [] := by
 unfold strings_Index at h
 refine runsR [.tmp 4] Tryd.func75 rfl rfl rfl rfl ?_
 rw [Tryd.ntmps75]
 refine tri_sr ?_
 refine s_mv (.inr rfl) (v := .sc (.int .i64 0)) rfl rfl rfl rfl ?_
 refine rt_nil ?_
 refine tri_sr ?_
 refine m1 ?_
 refine m1 ?_
 refine bnd1_elim h fun x1 q2 h => ?_
 refine s_callN (kb := []) (ns := []) (v := .sc (.int .i64 x1)) rfl rfl cl81 (winternal_stringslite_Index p0 p1 x1 q2) rfl (.cons (.free rfl) (.cons (.free rfl) .nil)) trivial memNil .nil memNil rfl trivial memNil rfl rfl rfl rfl rfl rfl ?_
 refine m2 ?_
 refine rt_nil ?_
 refine tri_ret ?_
 have e0 := (some1 h); subst e0
 exact endY [] [] (rvC (resTmp rfl) rvN) trivial trivial rfl rfl rfl rfl (.free rfl)

/- strings.Count -/
def inv_strings_Count_0 (p1 : ByteArray) (v0_0 : ByteArray) (v0_1 : Int) : St := mkT 34 [(0, .sc (.string v0_0)), (1, .sc (.string p1)), (5, .sc (.int .i64 v0_1))] []
set_option maxRecDepth 4000 in
set_option maxHeartbeats 800000 in
theorem wstrings_Count (p0 : ByteArray) (p1 : ByteArray) (r0 : Int) (h : strings_Count p0 p1 = some r0) : Runs Tryd.prog 74 [.sc (.string p0), .sc (.string p1)] [] (.sc (.int .i64 r0)) [] := by
 unfold strings_Count at h
 refine runsR [.tmp 4] Tryd.func74 rfl rfl rfl rfl ?_
 rw [Tryd.ntmps74]
 refine tri_sr ?_
 refine s_mv (.inr rfl) (v := .sc (.int .i64 0)) rfl rfl rfl rfl ?_
 refine rt_nil ?_
 refine tri_seq ?_
 refine tri_sr ?_
 refine m1 ?_
 refine s_of (st_lenS rfl rfl iss9) rfl rfl rfl rfl ?_
 refine s_of (st_eqI rfl rfl rfl) rfl rfl rfl rfl ?_
 refine rt_nil ?_
 refine tri_cond rfl (fun c1 => ?_) (fun c1 => ?_)
 ·replace h := cond_t h c1
  refine tri_sr ?_
  refine m1 ?_
  cases h
 ·replace h := cond_f h c1
  refine tri_skip ?_
  refine tri_seq ?_
  refine tri_sr ?_
  refine m1 ?_
  refine s_of (st_lenS rfl rfl iss9) rfl rfl rfl rfl ?_
  refine s_of (st_eqI rfl rfl rfl) rfl rfl rfl rfl ?_
  refine rt_nil ?_
  refine tri_cond rfl (fun c2 => ?_) (fun c2 => ?_)
  ·replace h := cond_t h c2
   refine tri_sr ?_
   refine m1 ?_
   refine m1 ?_
   refine bnd1_elim h fun x3 q4 h => ?_
   refine s_idxS rfl rfl rfl iss9 q4 rfl rfl rfl ?_
   refine s_countString rfl rfl rfl Tryd.func80 (by kernel_rfl) (by kernel_rfl) (by kernel_rfl) (by kernel_rfl) rfl rfl rfl ?_
   refine m2 ?_
   refine rt_nil ?_
   refine tri_ret ?_
   have e0 := (some1 h); subst e0
   exact endY [] [] (rvC (resTmp rfl) rvN) trivial trivial rfl rfl rfl rfl (.free rfl)
  ·replace h := cond_f h c2
   refine tri_skip ?_
   refine tri_sr ?_
   refine s_mv (.inr rfl) (v := .sc (.int .i64 0)) rfl rfl rfl rfl ?_
   refine rt_nil ?_
   refine tri_block ?_
   refine tri_loop (ι := { p : Nat × ByteArray × Int // strings_Count_l0 p1 p.1 p.2.1 p.2.2 = some r0 }) (fun p => inv_strings_Count_0 p1 p.1.2.1 p.1.2.2) (fun p => p.1.1) ⟨(fuel0, p0, 0), h⟩ ?_ ?_
   ·skip
    refine entX [] [] trivial trivial rfl rfl ?_
    exact ⟨(.free rfl), (.free rfl), (.free rfl), trivial⟩
   ·rintro ⟨⟨f0, v0_0, v0_1⟩, h⟩
    replace h : strings_Count_l0 p1 f0 v0_0 v0_1 = some r0 := h
    cases f0 with
    | zero => cases h
    | succ f0 =>
    rw [strings_Count_l0] at h
    show Tri _ _ _ (inv_strings_Count_0 p1 v0_0 v0_1)
    refine tri_block ?_
    refine tri_sr ?_
    refine m1 ?_
    refine m1 ?_
    refine bnd1_elim h fun x5 q6 h => ?_
    refine s_callN (kb := []) (ns := []) (v := .sc (.int .i64 x5)) rfl rfl cl75 (wstrings_Index v0_0 p1 x5 q6) rfl (.cons (.free rfl) (.cons (.free rfl) .nil)) trivial memNil .nil memNil rfl trivial memNil rfl rfl rfl rfl rfl rfl ?_
    refine m2 ?_
    refine rt_nil ?_
    refine tri_seq ?_
    refine tri_sr ?_
    refine m1 ?_
    refine s_of (st_eqI rfl rfl rfl) rfl rfl rfl rfl ?_
    refine rt_nil ?_
    refine tri_cond rfl (fun c7 => ?_) (fun c7 => ?_)
    ·replace h := cond_t h c7
     refine tri_sr ?_
     refine m1 ?_
     refine m2 ?_
     refine rt_nil ?_
     refine tri_ret ?_
     have e0 := (some1 h); subst e0
     exact endY [] [] (rvC (resTmp rfl) rvN) trivial trivial rfl rfl rfl rfl (.free rfl)
    ·replace h := cond_f h c7
     refine tri_skip ?_
     refine tri_sr ?_
     refine m1 ?_
     refine grd_elim h fun g8 h => ?_
     refine s_addI rfl rfl rfl rfl g8 rfl rfl rfl ?_
     refine m2 ?_
     refine rt_nil ?_
     refine tri_region ?_
     refine m1 ?_
     refine m1 ?_
     refine m1 ?_
     refine s_of (st_lenS rfl rfl iss9) rfl rfl rfl rfl ?_
     refine grd_elim h fun g9 h => ?_
     refine s_addI rfl rfl rfl rfl g9 rfl rfl rfl ?_
     refine grd_elim h fun g10 h => ?_
     refine s_sliceS (a := x5 + (p1.size : Int)) (b := (v0_0.size : Int)) rfl rfl iss9 ⟨_, rfl⟩ rfl g10 rfl rfl rfl ?_
     refine m2 ?_
     refine rt_nil ?_
     refine Exists.intro ⟨(f0, v0_0.extract (x5 + (p1.size : Int)).toNat (v0_0.size : Int).toNat, v0_1 + 1), h⟩ (And.intro (Nat.lt_succ_self _) ?_)
     refine entX [] [] trivial trivial rfl rfl ?_
     exact ⟨(.free rfl), (.free rfl), (.free rfl), trivial⟩

/- strings.genSplit -/
def inv_strings_genSplit_2 (p0 : ByteArray) (p1 : ByteArray) (p2 : Int) (j0_0 : Int) (v2_0 : ByteArray) (v2_1 : List ByteArray) (v2_2 : Int) : St := mkT 66 [(0, .sc (.string v2_0)), (1, .sc (.string p1)), (2, .sc (.int .i64 p2)), (3, .sc (.int .i64 ((if (p0.size : Int) + 1 < j0_0 then (p0.size : Int) + 1 else j0_0) - 1))), (9, .ref (31, 0) 0 v2_1.length), (10, .sc (.int .i64 v2_2))] [((31, 0), some ⟨9, 1, List.map strV v2_1, false, true⟩)]
def inv_strings_genSplit_1  (j1_0 : ByteArray) (j1_1 : List ByteArray) (j1_2 : Int) : St := mkT 66 [(0, .sc (.string j1_0)), (9, .ref (31, 0) 0 j1_1.length), (10, .sc (.int .i64 j1_2))] [((31, 0), some ⟨9, 1, List.map strV j1_1, false, true⟩)]
def inv_strings_genSplit_0 (p0 : ByteArray) (p1 : ByteArray) (p2 : Int) (j0_0 : Int) : St := mkT 66 [(0, .sc (.string p0)), (1, .sc (.string p1)), (2, .sc (.int .i64 p2)), (3, .sc (.int .i64 j0_0))] []
set_option maxRecDepth 4000 in
set_option maxHeartbeats 800000 in
theorem wstrings_genSplit (p0 : ByteArray) (p1 : ByteArray) (p2 : Int) (p3 : Int) (r0 : List ByteArray) (h : strings_genSplit p0 p1 p2 p3 = some r0) : Runs Tryd.prog 70 [.sc (.string p0), .sc (.string p1), .sc (.int .i64 p2), .sc (.int .i64 p3)] [] (.own 9 1 (List.map strV r0)) [] := by
 unfold strings_genSplit at h
 refine runsR [.tmp 8] Tryd.func70 rfl rfl rfl rfl ?_
 rw [Tryd.ntmps70]
 refine tri_sr ?_
 refine s_mv (.inr rfl) (v := .nils) rfl rfl rfl rfl ?_
 refine rt_nil ?_
 refine tri_seq ?_
 refine tri_sr ?_
 refine m1 ?_
 refine s_of (st_eqI rfl rfl rfl) rfl rfl rfl rfl ?_
 refine rt_nil ?_
 refine tri_cond rfl (fun c1 => ?_) (fun c1 => ?_)
 ·replace h := cond_t h c1
  refine tri_sr ?_
  refine s_mv (.inr rfl) (v := .nils) rfl rfl rfl rfl ?_
  refine rt_nil ?_
  refine tri_ret ?_
  have e0 := (some1 h); subst e0
  exact endY (v' := .ref (2000, 0) 0 (([] : List ByteArray).length)) [((2000, 0), ⟨9, 1, List.map strV ([] : List ByteArray), false, true⟩, none)] [] (rvC (resTmp rfl) rvN) ⟨rfl, trivial⟩ trivial rfl rfl (by kernel_rfl) (by simp only [V.mat, V.mat1, V.mat0, matL, matT, List.length_map] <;> rfl) (.nilRef rfl)
 ·replace h := cond_f h c1
  refine tri_skip ?_
  refine tri_seq ?_
  refine tri_sr ?_
  refine m1 ?_
  refine s_of (st_eqS rfl rfl rfl) rfl rfl rfl rfl ?_
  refine rt_nil ?_
  refine tri_cond rfl (fun c2 => ?_) (fun c2 => ?_)
  ·replace h := cond_t h c2
   refine tri_sr ?_
   refine m1 ?_
   refine m1 ?_
   cases h
  ·replace h := cond_f h c2
   refine tri_skip ?_
   refine tri_cutI (ι := { p : Int // strings_genSplit_j0 p0 p1 p2 p = some r0 }) (fun p => inv_strings_genSplit_0 p0 p1 p2 p.1) ?_ ?_
   ·skip
    refine tri_sr ?_
    refine m1 ?_
    refine s_of (st_lss rfl rfl rfl) rfl rfl rfl rfl ?_
    refine rt_nil ?_
    refine tri_cond rfl (fun c3 => ?_) (fun c3 => ?_)
    ·replace h := cond_t h c3
     refine tri_region ?_
     refine m1 ?_
     refine m1 ?_
     refine bnd1_elim h fun x4 q5 h => ?_
     refine s_callN (kb := []) (ns := []) (v := .sc (.int .i64 x4)) rfl rfl cl74 (wstrings_Count p0 p1 x4 q5) rfl (.cons (.free rfl) (.cons (.free rfl) .nil)) trivial memNil .nil memNil rfl trivial memNil rfl rfl rfl rfl rfl rfl ?_
     refine grd_elim h fun g6 h => ?_
     refine s_addI rfl rfl rfl rfl g6 rfl rfl rfl ?_
     refine m2 ?_
     refine rt_nil ?_
     refine Exists.intro ⟨x4 + 1, h⟩ ?_
     refine entX [] [] trivial trivial rfl rfl ?_
     exact ⟨(.free rfl), (.free rfl), (.free rfl), (.free rfl), trivial⟩
    ·replace h := cond_f h c3
     refine tri_skip ?_
     refine Exists.intro ⟨p3, h⟩ ?_
     refine entX [] [] trivial trivial rfl rfl ?_
     exact ⟨(.free rfl), (.free rfl), (.free rfl), (.free rfl), trivial⟩
   ·rintro ⟨j0_0, h⟩
    replace h : strings_genSplit_j0 p0 p1 p2 j0_0 = some r0 := h
    unfold strings_genSplit_j0 at h
    show Tri _ _ _ (inv_strings_genSplit_0 p0 p1 p2 j0_0)
    refine tri_sr ?_
    refine m1 ?_
    refine m1 ?_
    refine s_of (st_lenS rfl rfl iss9) rfl rfl rfl rfl ?_
    refine grd_elim h fun g3 h => ?_
    refine s_addI rfl rfl rfl rfl g3 rfl rfl rfl ?_
    refine s_of (st_minI rfl rfl rfl) rfl rfl rfl rfl ?_
    refine m2 ?_
    refine rt_nil ?_
    refine tri_sr ?_
    refine m1 ?_
    refine grd_elim h fun g4 h => ?_
    refine s_makeL (f := strV) (a := (⟨#[]⟩ : ByteArray)) rfl rfl rfl rfl rfl sl69 zc9 rfl rfl rfl rfl g4.1 g4.2 (rowZ_cv rfl rowZ_nil) rfl rfl ?_
    refine m2 ?_
    refine rt_nil ?_
    refine tri_sr ?_
    refine m1 ?_
    refine grd_elim h fun g5 h => ?_
    refine s_subI rfl rfl rfl rfl g5 rfl rfl rfl ?_
    refine m2 ?_
    refine rt_nil ?_
    refine tri_sr ?_
    refine s_mv (.inr rfl) (v := .sc (.int .i64 0)) rfl rfl rfl rfl ?_
    refine rt_nil ?_
    refine tri_cutI (ι := { p : ByteArray × (List ByteArray) × Int // strings_genSplit_j1 p.1 p.2.1 p.2.2 = some r0 }) (fun p => inv_strings_genSplit_1 p.1.1 p.1.2.1 p.1.2.2) ?_ ?_
    ·skip
     refine tri_block ?_
     refine tri_loop (ι := { p : Nat × ByteArray × (List ByteArray) × Int // strings_genSplit_l2 p0 p1 p2 j0_0 p.1 p.2.1 p.2.2.1 p.2.2.2 = some r0 }) (fun p => inv_strings_genSplit_2 p0 p1 p2 j0_0 p.1.2.1 p.1.2.2.1 p.1.2.2.2) (fun p => p.1.1) ⟨(fuel0, p0, List.replicate (if (p0.size : Int) + 1 < j0_0 then (p0.size : Int) + 1 else j0_0).toNat (⟨#[]⟩ : ByteArray), 0), h⟩ ?_ ?_
     ·skip
      refine entX [((31, 0), ⟨9, 1, List.map strV (List.replicate (if (p0.size : Int) + 1 < j0_0 then (p0.size : Int) + 1 else j0_0).toNat (⟨#[]⟩ : ByteArray)), false, true⟩, some (31, 0))] [] ⟨⟨rfl, _, rfl, rfl, rfl, rfl, id, rowsCv_eq rfl (allFree_map strV_free), rowsZ_map strV_len⟩, trivial⟩ trivial rfl rfl ?_
      exact ⟨(.free rfl), (.free rfl), (.free rfl), (.free rfl), (.ref rfl), (.free rfl), trivial⟩
     ·rintro ⟨⟨f2, v2_0, v2_1, v2_2⟩, h⟩
      replace h : strings_genSplit_l2 p0 p1 p2 j0_0 f2 v2_0 v2_1 v2_2 = some r0 := h
      cases f2 with
      | zero => cases h
      | succ f2 =>
      rw [strings_genSplit_l2] at h
      show Tri _ _ _ (inv_strings_genSplit_2 p0 p1 p2 j0_0 v2_0 v2_1 v2_2)
      refine tri_seq ?_
      refine tri_sr ?_
      refine m1 ?_
      refine m1 ?_
      refine s_of (st_lss rfl rfl rfl) rfl rfl rfl rfl ?_
      refine rt_nil ?_
      refine tri_cond rfl (fun c6 => ?_) (fun c6 => ?_)
      ·replace h := cond_t h c6
       refine tri_skip ?_
       refine tri_block ?_
       refine tri_sr ?_
       refine m1 ?_
       refine m1 ?_
       refine bnd1_elim h fun x7 q8 h => ?_
       refine s_callN (kb := []) (ns := []) (v := .sc (.int .i64 x7)) rfl rfl cl75 (wstrings_Index v2_0 p1 x7 q8) rfl (.cons (.free rfl) (.cons (.free rfl) .nil)) trivial memNil .nil memNil rfl trivial memNil rfl rfl rfl rfl rfl rfl ?_
       refine m2 ?_
       refine rt_nil ?_
       refine tri_seq ?_
       refine tri_sr ?_
       refine m1 ?_
       refine s_of (st_lss rfl rfl rfl) rfl rfl rfl rfl ?_
       refine rt_nil ?_
       refine tri_cond rfl (fun c9 => ?_) (fun c9 => ?_)
       ·replace h := cond_t h c9
        refine tri_exit ?_
        refine Exists.intro ⟨(v2_0, v2_1, v2_2), h⟩ ?_
        refine entX [((31, 0), ⟨9, 1, List.map strV v2_1, false, true⟩, some (31, 0))] [] ⟨⟨rfl, _, rfl, rfl, rfl, rfl, id, rowsCv_eq rfl (allFree_map strV_free), rowsZ_map strV_len⟩, trivial⟩ trivial rfl rfl ?_
        exact ⟨(.free rfl), (.ref rfl), (.free rfl), trivial⟩
       ·replace h := cond_f h c9
        refine tri_skip ?_
        refine tri_sr ?_
        refine m1 ?_
        refine m1 ?_
        refine m1 ?_
        refine m1 ?_
        refine m1 ?_
        refine grd_elim h fun g10 h => ?_
        refine s_addI rfl rfl rfl rfl g10 rfl rfl rfl ?_
        refine grd_elim h fun g11 h => ?_
        refine s_sliceS (a := ((0 : Nat) : Int)) (b := x7 + p2) rfl rfl iss9 rfl ⟨_, rfl⟩ g11 rfl rfl rfl ?_
        refine bnd1_elim h fun x12 q13 h => ?_
        have q13a := (idx_some q13).1; have q13b := (idx_some q13).2
        refine s_indexZ rfl rfl rfl rfl sl69 rfl q13a (get_lt q13b) rfl rfl rfl ?_
        refine s_storeL (x' := v2_0.extract ((0 : Nat) : Int).toNat (x7 + p2).toNat) rfl rfl rfl q13b ty9 rfl rfl rfl rfl rfl rfl ?_
        refine rt_nil ?_
        refine tri_sr ?_
        refine m1 ?_
        refine m1 ?_
        refine m1 ?_
        refine s_of (st_lenS rfl rfl iss9) rfl rfl rfl rfl ?_
        refine grd_elim h fun g14 h => ?_
        refine s_addI rfl rfl rfl rfl g14 rfl rfl rfl ?_
        refine grd_elim h fun g15 h => ?_
        refine s_sliceS (a := x7 + (p1.size : Int)) (b := (v2_0.size : Int)) rfl rfl iss9 ⟨_, rfl⟩ rfl g15 rfl rfl rfl ?_
        refine m2 ?_
        refine rt_nil ?_
        refine tri_region ?_
        refine m1 ?_
        refine grd_elim h fun g16 h => ?_
        refine s_addI rfl rfl rfl rfl g16 rfl rfl rfl ?_
        refine m2 ?_
        refine rt_nil ?_
        refine Exists.intro ⟨(f2, v2_0.extract (x7 + (p1.size : Int)).toNat (v2_0.size : Int).toNat, v2_1.set v2_2.toNat (v2_0.extract ((0 : Nat) : Int).toNat (x7 + p2).toNat), v2_2 + 1), h⟩ (And.intro (Nat.lt_succ_self _) ?_)
        refine entX [((31, 0), ⟨9, 1, List.map strV (v2_1.set v2_2.toNat (v2_0.extract ((0 : Nat) : Int).toNat (x7 + p2).toNat)), false, true⟩, some (31, 0))] [] ⟨⟨rfl, _, rfl, rfl, rfl, rfl, id, rowsCv_eq rfl (allFree_map strV_free), rowsZ_map strV_len⟩, trivial⟩ trivial rfl rfl ?_
        exact ⟨(.free rfl), (.free rfl), (.free rfl), (.free rfl), (cvRefLen rfl (by simp only [List.length_set])), (.free rfl), trivial⟩
      ·replace h := cond_f h c6
       refine tri_exit ?_
       refine Exists.intro ⟨(v2_0, v2_1, v2_2), h⟩ ?_
       refine entX [((31, 0), ⟨9, 1, List.map strV v2_1, false, true⟩, some (31, 0))] [] ⟨⟨rfl, _, rfl, rfl, rfl, rfl, id, rowsCv_eq rfl (allFree_map strV_free), rowsZ_map strV_len⟩, trivial⟩ trivial rfl rfl ?_
       exact ⟨(.free rfl), (.ref rfl), (.free rfl), trivial⟩
    ·rintro ⟨⟨j1_0, j1_1, j1_2⟩, h⟩
     replace h : strings_genSplit_j1 j1_0 j1_1 j1_2 = some r0 := h
     unfold strings_genSplit_j1 at h
     show Tri _ _ _ (inv_strings_genSplit_1 j1_0 j1_1 j1_2)
     refine tri_sr ?_
     refine m1 ?_
     refine m1 ?_
     refine m1 ?_
     refine bnd1_elim h fun x6 q7 h => ?_
     have q7a := (idx_some q7).1; have q7b := (idx_some q7).2
     refine s_indexZ rfl rfl rfl rfl sl69 rfl q7a (get_lt q7b) rfl rfl rfl ?_
     refine s_storeL (x' := j1_0) rfl rfl rfl q7b ty9 rfl rfl rfl rfl rfl rfl ?_
     refine rt_nil ?_
     refine tri_sr ?_
     refine m1 ?_
     refine m1 ?_
     refine grd_elim h fun g8 h => ?_
     refine s_addI rfl rfl rfl rfl g8 rfl rfl rfl ?_
     refine grd_elim h fun g9 h => ?_
     refine s_sliceZ (a := ((0 : Nat) : Int)) (b := j1_2 + 1) rfl rfl rfl sl69 rfl rfl ⟨_, rfl⟩ g9 rfl rfl rfl ?_
     refine m2 ?_
     refine rt_nil ?_
     refine tri_ret ?_
     have e0 := (some1 h); subst e0
     exact endY (v' := .ref (2000, 0) 0 ((((j1_1.set j1_2.toNat j1_0).drop (0 + ((0 : Nat) : Int).toNat)).take ((j1_2 + 1).toNat - ((0 : Nat) : Int).toNat)).length)) [((2000, 0), ⟨9, 1, List.map strV (((j1_1.set j1_2.toNat j1_0).drop (0 + ((0 : Nat) : Int).toNat)).take ((j1_2 + 1).toNat - ((0 : Nat) : Int).toNat)), false, true⟩, some (31, 0))] [] (rvC (resTmp rfl) rvN) ⟨⟨rfl, _, rfl, rfl, rfl, rfl, id, rowsCv_pre rfl strV_free, rowsZ_map strV_len⟩, trivial⟩ trivial rfl rfl (by kernel_rfl) (by simp only [V.mat, V.mat1, V.mat0, matL, matT, List.length_map] <;> rfl) (cvRefPre rfl rfl (by simp only [List.length_take, List.length_drop, List.length_set]; omega))

/- strings.Split -/

set_option maxRecDepth 4000 in
set_option maxHeartbeats 800000 in
theorem wstrings_Split (p0 : ByteArray) (p1 : ByteArray) (r0 : List ByteArray) (h : strings_Split p0 p1 = some r0) : Runs Tryd.prog 61 [.sc (.string p0), .sc (.string p1)] [] (.own 9 1 (List.map strV r0)) [] := by
 unfold strings_Split at h
 refine runsR [.tmp 4] Tryd.func61 rfl rfl rfl rfl ?_
 rw [Tryd.ntmps61]
 refine tri_sr ?_
 refine s_mv (.inr rfl) (v := .nils) rfl rfl rfl rfl ?_
 refine rt_nil ?_
 refine tri_sr ?_
 refine m1 ?_
 refine m1 ?_
 refine bnd1_elim h fun x1 q2 h => ?_
 refine s_callN (kb := []) (ns := []) (v := .ref (7, 0) 0 x1.length) rfl rfl cl70 (wstrings_genSplit p0 p1 0 (-1) x1 q2) rfl (.cons (.free rfl) (.cons (.free rfl) (.cons (.free rfl) (.cons (.free rfl) .nil)))) trivial memNil .nil memNil rfl ⟨(allSc_map strV_sc), trivial⟩ memNil rfl (by simp only [V.mat, V.mat1, V.mat0, matL, matT, List.length_map] <;> rfl) rfl rfl rfl rfl ?_
 refine m2 ?_
 refine rt_nil ?_
 refine tri_ret ?_
 have e0 := (some1 h); subst e0
 exact endY (v' := .ref (2000, 0) 0 x1.length) [((2000, 0), ⟨9, 1, List.map strV x1, false, true⟩, some (7, 0))] [] (rvC (resTmp rfl) rvN) ⟨⟨rfl, _, rfl, rfl, rfl, rfl, id, rowsCv_eq rfl (allFree_map strV_free), rowsZ_map strV_len⟩, trivial⟩ trivial rfl rfl (by kernel_rfl) (by simp only [V.mat, V.mat1, V.mat0, matL, matT, List.length_map] <;> rfl) (.ref rfl)

/- impl.Labels -/

set_option maxRecDepth 4000 in
set_option maxHeartbeats 800000 in
theorem wi_Labels (p0 : ByteArray) (r0 : List ByteArray) (h : i_Labels p0 = some r0) : Runs Tryd.prog 46 [.sc (.string p0)] [] (.own 9 1 (List.map strV r0)) [] := by
 unfold i_Labels at h
 refine runsR [.tmp 2] Tryd.func46 rfl rfl rfl rfl ?_
 rw [Tryd.ntmps46]
 refine tri_sr ?_
 refine s_mv (.inr rfl) (v := .nils) rfl rfl rfl rfl ?_
 refine rt_nil ?_
 refine tri_seq ?_
 refine tri_sr ?_
 refine m1 ?_
 refine s_of (st_eqS rfl rfl rfl) rfl rfl rfl rfl ?_
 refine rt_nil ?_
 refine tri_cond rfl (fun c1 => ?_) (fun c1 => ?_)
 ·replace h := cond_t h c1
  refine tri_sr ?_
  refine s_mv (.inr rfl) (v := .nils) rfl rfl rfl rfl ?_
  refine rt_nil ?_
  refine tri_ret ?_
  have e0 := (some1 h); subst e0
  exact endY (v' := .ref (2000, 0) 0 (([] : List ByteArray).length)) [((2000, 0), ⟨9, 1, List.map strV ([] : List ByteArray), false, true⟩, none)] [] (rvC (resTmp rfl) rvN) ⟨rfl, trivial⟩ trivial rfl rfl (by kernel_rfl) (by simp only [V.mat, V.mat1, V.mat0, matL, matT, List.length_map] <;> rfl) (.nilRef rfl)
 ·replace h := cond_f h c1
  refine tri_skip ?_
  refine tri_sr ?_
  refine m1 ?_
  refine bnd1_elim h fun x2 q3 h => ?_
  refine s_callN (kb := []) (ns := []) (v := .ref (6, 0) 0 x2.length) rfl rfl cl61 (wstrings_Split p0 (⟨#[46]⟩ : ByteArray) x2 q3) rfl (.cons (.free rfl) (.cons (.free rfl) .nil)) trivial memNil .nil memNil rfl ⟨(allSc_map strV_sc), trivial⟩ memNil rfl (by simp only [V.mat, V.mat1, V.mat0, matL, matT, List.length_map] <;> rfl) rfl rfl rfl rfl ?_
  refine m2 ?_
  refine rt_nil ?_
  refine tri_ret ?_
  have e0 := (some1 h); subst e0
  exact endY (v' := .ref (2000, 0) 0 x2.length) [((2000, 0), ⟨9, 1, List.map strV x2, false, true⟩, some (6, 0))] [] (rvC (resTmp rfl) rvN) ⟨⟨rfl, _, rfl, rfl, rfl, rfl, id, rowsCv_eq rfl (allFree_map strV_free), rowsZ_map strV_len⟩, trivial⟩ trivial rfl rfl (by kernel_rfl) (by simp only [V.mat, V.mat1, V.mat0, matL, matT, List.length_map] <;> rfl) (.ref rfl)

/- slices.IndexFunc[[]string,string] -/
def inv_slices_IndexFunc_string_0 (p0 : List ByteArray) (fi1 : FuncId) (cp1 : List V) (v0_0 : Nat) : St := mkT 19 [(0, .lst 1 (List.map strV p0)), (1, .fn fi1 cp1), (7, .sc (.int .i64 (p0.length : Int))), (8, .sc (.int .i64 (v0_0 : Int)))] []
set_option maxRecDepth 4000 in
set_option maxHeartbeats 800000 in
theorem wslices_IndexFunc_string (p0 : List ByteArray) (fi1 : FuncId) (cp1 : List V) (hf1 : cp1.all (·.free) = true) (hb1 : callable Tryd.prog fi1 = true) (p1 : ByteArray → Option Bool) (hg1 : ∀ (z0 : ByteArray) v, p1 z0 = some v → Runs Tryd.prog fi1 ([.sc (.string z0)] ++ cp1) [] (.sc (.bool v)) []) (r0 : Int) (h : slices_IndexFunc_string p0 p1 = some r0) : Runs Tryd.prog 62 [.lst 1 (List.map strV p0), .fn fi1 cp1] [] (.sc (.int .i64 r0)) [] := by
 unfold slices_IndexFunc_string at h
 refine runsR [.tmp 4] Tryd.func62 rfl rfl rfl rfl ?_
 rw [Tryd.ntmps62]
 refine tri_sr ?_
 refine s_mv (.inr rfl) (v := .sc (.int .i64 0)) rfl rfl rfl rfl ?_
 refine rt_nil ?_
 refine tri_seq ?_
 refine tri_sr ?_
 refine m1 ?_
 refine s_lenL rfl sl69 rfl rfl rfl rfl ?_
 refine s_mv (.inl rfl) (v := .sc (.int .i64 0)) rfl rfl rfl rfl ?_
 refine rt_nil ?_
 refine tri_block ?_
 refine tri_lstM 0 rfl (fun hl0 => ?_)
 refine tri_loop (ι := { p : (List ByteArray) × Nat // p0.drop p.2 = p.1 ∧ slices_IndexFunc_string_l0 p1 p.1 p.2 = some r0 }) (fun p => inv_slices_IndexFunc_string_0 p0 fi1 cp1 p.1.2) (fun p => p.1.1.length) ⟨(p0, 0), rfl, h⟩ ?_ ?_
 ·skip
  refine entX [] [] trivial trivial rfl rfl ?_
  exact ⟨(.free rfl), (cvFn hf1), (.free rfl), (.free rfl), trivial⟩
 ·rintro ⟨⟨lrs0, v0_0⟩, hd0, h⟩
  replace hd0 : p0.drop v0_0 = lrs0 := hd0
  replace h : slices_IndexFunc_string_l0 p1 lrs0 v0_0 = some r0 := h
  show Tri _ _ _ (inv_slices_IndexFunc_string_0 p0 fi1 cp1 v0_0)
  refine tri_sr ?_
  refine s_of (st_lss rfl rfl rfl) rfl rfl rfl rfl ?_
  refine rt_nil ?_
  refine tri_seq ?_
  refine tri_cond rfl (fun c1 => ?_) (fun c1 => ?_)
  ·refine drop_elim hd0 c1 fun e0 rs0 he hx0 hn0 => ?_
   subst he
   rw [slices_IndexFunc_string_l0] at h
   refine tri_skip ?_
   refine tri_seq ?_
   refine tri_block ?_
   refine tri_sr ?_
   refine m1 ?_
   refine m2 ?_
   refine rt_nil ?_
   refine tri_sr ?_
   refine m1 ?_
   refine m1 ?_
   refine m1 ?_
   refine s_indexF (i := v0_0) rfl rfl rfl sl69 (get_ltM hx0) rfl rfl rfl ?_
   refine s_loadF rfl rfl (rowG hx0) ty9 rfl (.inr rfl) (by conv => lhs; whnf) rfl rfl rfl ?_
   refine bnd1_elim h fun x2 q3 h => ?_
   refine s_callN (kb := []) (ns := []) (v := .sc (.bool x2)) rfl rfl hb1 (hg1 e0 x2 q3) rfl (.cons (.free rfl) (argsFree hf1)) trivial memNil .nil memNil rfl trivial memNil rfl rfl rfl rfl rfl rfl ?_
   refine rt_nil ?_
   refine tri_cond rfl (fun c4 => ?_) (fun c4 => ?_)
   ·replace h := cond_t h c4
    refine tri_sr ?_
    refine m1 ?_
    refine m2 ?_
    refine rt_nil ?_
    refine tri_ret ?_
    have e0 := (some1 h); subst e0
    exact endY [] [] (rvC (resTmp rfl) rvN) trivial trivial rfl rfl rfl rfl (.free rfl)
   ·replace h := cond_f h c4
    refine tri_skip ?_
    refine tri_region ?_
    refine s_inc (a := v0_0) (b := 1) rfl rfl rfl rfl (by have := get_lt hx0; have := hl0; omega) rfl rfl rfl ?_
    refine m1 ?_
    refine rt_nil ?_
    refine Exists.intro ⟨(rs0, (v0_0 + 1)), hn0, h⟩ (And.intro (Nat.lt_succ_self _) ?_)
    refine entX [] [] trivial trivial rfl rfl ?_
    exact ⟨(.free rfl), (cvFn hf1), (.free rfl), (.free rfl), trivial⟩
  ·have he := drop_f hd0 c1; subst he
   rw [slices_IndexFunc_string_l0] at h
   refine tri_exit ?_
   refine tri_sr ?_
   refine s_mv (.inr rfl) (v := .sc (.int .i64 (-1))) rfl rfl rfl rfl ?_
   refine rt_nil ?_
   refine tri_ret ?_
   have e0 := (some1 h); subst e0
   exact endY [] [] (rvC (resTmp rfl) rvN) trivial trivial rfl rfl rfl rfl (.free rfl)

/- slices.ContainsFunc[[]string,string] -/

set_option maxRecDepth 4000 in
set_option maxHeartbeats 800000 in
theorem wslices_ContainsFunc_string (p0 : List ByteArray) (fi1 : FuncId) (cp1 : List V) (hf1 : cp1.all (·.free) = true) (hb1 : callable Tryd.prog fi1 = true) (p1 : ByteArray → Option Bool) (hg1 : ∀ (z0 : ByteArray) v, p1 z0 = some v → Runs Tryd.prog fi1 ([.sc (.string z0)] ++ cp1) [] (.sc (.bool v)) []) (r0 : Bool) (h : slices_ContainsFunc_string p0 p1 = some r0) : Runs Tryd.prog 47 [.lst 1 (List.map strV p0), .fn fi1 cp1] [] (.sc (.bool r0)) [] := by
 unfold slices_ContainsFunc_string at h
 refine runsR [.tmp 4] Tryd.func47 rfl rfl rfl rfl ?_
 rw [Tryd.ntmps47]
 refine tri_sr ?_
 refine s_mv (.inr rfl) (v := .sc (.bool false)) rfl rfl rfl rfl ?_
 refine rt_nil ?_
 refine tri_sr ?_
 refine m1 ?_
 refine m1 ?_
 refine bnd1_elim h fun x1 q2 h => ?_
 refine s_callN (kb := []) (ns := []) (v := .sc (.int .i64 x1)) rfl rfl cl62 (wslices_IndexFunc_string p0 fi1 cp1 hf1 hb1 p1 hg1 x1 q2) rfl (.cons (.free rfl) (.cons (relFn hf1) .nil)) trivial memNil .nil memNil rfl trivial memNil rfl rfl rfl rfl rfl rfl ?_
 refine s_of (st_geq rfl rfl rfl) rfl rfl rfl rfl ?_
 refine m2 ?_
 refine rt_nil ?_
 refine tri_ret ?_
 have e0 := (some1 h); subst e0
 exact endY [] [] (rvC (resTmp rfl) rvN) trivial trivial rfl rfl rfl rfl (.free rfl)

/- impl.NameOk$1 -/

set_option maxRecDepth 4000 in
set_option maxHeartbeats 800000 in
theorem wi_NameOk_1 (p0 : ByteArray) (r0 : Bool) (h : i_NameOk_1 p0 = some r0) : Runs Tryd.prog 48 [.sc (.string p0)] [] (.sc (.bool r0)) [] := by
 unfold i_NameOk_1 at h
 refine runsR [.tmp 2] Tryd.func48 rfl rfl rfl rfl ?_
 rw [Tryd.ntmps48]
 refine tri_sr ?_
 refine s_mv (.inr rfl) (v := .sc (.bool false)) rfl rfl rfl rfl ?_
 refine rt_nil ?_
 refine tri_sr ?_
 refine m1 ?_
 refine bnd1_elim h fun x1 q2 h => ?_
 refine s_callN (kb := []) (ns := []) (v := .sc (.bool x1)) rfl rfl cl49 (wi_LabelOk p0 x1 q2) rfl (.cons (.free rfl) .nil) trivial memNil .nil memNil rfl trivial memNil rfl rfl rfl rfl rfl rfl ?_
 refine s_of (st_not rfl rfl) rfl rfl rfl rfl ?_
 refine m2 ?_
 refine rt_nil ?_
 refine tri_ret ?_
 have e0 := (some1 h); subst e0
 exact endY [] [] (rvC (resTmp rfl) rvN) trivial trivial rfl rfl rfl rfl (.free rfl)

/- impl.NameOk -/

set_option maxRecDepth 4000 in
set_option maxHeartbeats 800000 in
theorem wi_NameOk (p0 : ByteArray) (r0 : Bool) (h : i_NameOk p0 = some r0) : Runs Tryd.prog 34 [.sc (.string p0)] [] (.sc (.bool r0)) [] := by
 unfold i_NameOk at h
 refine runsR [.tmp 2] Tryd.func34 rfl rfl rfl rfl ?_
 rw [Tryd.ntmps34]
 refine tri_sr ?_
 refine s_mv (.inr rfl) (v := .sc (.bool false)) rfl rfl rfl rfl ?_
 refine rt_nil ?_
 refine tri_sr ?_
 refine m1 ?_
 refine bnd1_elim h fun x1 q2 h => ?_
 refine s_callN (kb := []) (ns := []) (v := .ref (5, 0) 0 x1.length) rfl rfl cl46 (wi_Labels p0 x1 q2) rfl (.cons (.free rfl) .nil) trivial memNil .nil memNil rfl ⟨(allSc_map strV_sc), trivial⟩ memNil rfl (by simp only [V.mat, V.mat1, V.mat0, matL, matT, List.length_map] <;> rfl) rfl rfl rfl rfl ?_
 refine m2 ?_
 refine rt_nil ?_
 refine tri_sr ?_
 refine m1 ?_
 refine s_of (st_lenS rfl rfl iss9) rfl rfl rfl rfl ?_
 refine s_of (st_leq rfl rfl rfl) rfl rfl rfl rfl ?_
 refine m1 ?_
 refine s_split (t := 9) rfl (fun b3 => ?_) (fun b3 => ?_)
 ·replace h := cond_t h b3
  refine m1 ?_
  refine s_len (m := x1.length) rfl sl69 rfl rfl rfl rfl ?_
  refine s_of (st_leq rfl rfl rfl) rfl rfl rfl rfl ?_
  refine s_pickT rfl rfl (by conv => lhs; whnf) rfl rfl rfl ?_
  refine m1 ?_
  refine s_split (t := 14) rfl (fun b4 => ?_) (fun b4 => ?_)
  ·replace h := cond_t h b4
   refine m1 ?_
   refine bnd1_elim h fun x5 q6 h => ?_
   refine s_callN (kb := [(5, 0)]) (ns := []) (v := .sc (.bool x5)) rfl rfl cl47 (wslices_ContainsFunc_string x1 48 [] rfl cl48 (fun a0 => i_NameOk_1 a0) (fun a0 v0 hv => wi_NameOk_1 a0 v0 hv) x5 q6) rfl (.cons (lendL rfl (.head _) rfl strV_free strV_len) (.cons relFn0 .nil)) trivial memNil .nil (fun _ _ => List.not_mem_nil) rfl trivial memNil rfl rfl rfl rfl rfl rfl ?_
   refine s_of (st_not rfl rfl) rfl rfl rfl rfl ?_
   refine s_pickT rfl rfl (by conv => lhs; whnf) rfl rfl rfl ?_
   refine m2 ?_
   refine rt_nil ?_
   refine tri_ret ?_
   have e0 := (some1 h); subst e0
   exact endY [] [] (rvC (resTmp rfl) rvN) trivial trivial rfl rfl rfl rfl (.free rfl)
  ·replace h := cond_f h b4
   refine s_skip rfl rfl rfl ?_
   refine s_skip rfl rfl rfl ?_
   refine s_skip rfl rfl rfl ?_
   refine s_pickF rfl rfl (v := .sc (.bool false)) rfl rfl rfl rfl ?_
   refine m2 ?_
   refine rt_nil ?_
   refine tri_ret ?_
   have e0 := (some1 h); subst e0
   exact endY [] [] (rvC (resTmp rfl) rvN) trivial trivial rfl rfl rfl rfl (.free rfl)
 ·replace h := cond_f h b3
  refine s_skip rfl rfl rfl ?_
  refine s_skip rfl rfl rfl ?_
  refine s_skip rfl rfl rfl ?_
  refine s_pickF rfl rfl (v := .sc (.bool false)) rfl rfl rfl rfl ?_
  refine m1 ?_
  refine s_skip rfl rfl rfl ?_
  refine s_skip rfl rfl rfl ?_
  refine s_skip rfl rfl rfl ?_
  refine s_pickF rfl rfl (v := .sc (.bool false)) rfl rfl rfl rfl ?_
  refine m2 ?_
  refine rt_nil ?_
  refine tri_ret ?_
  have e0 := (some1 h); subst e0
  exact endY [] [] (rvC (resTmp rfl) rvN) trivial trivial rfl rfl rfl rfl (.free rfl)

/- impl.read -/
def inv_i_read_2 (v0_0 : List ByteArray) (v0_3 : Int) (j2_0 : Int) : St := mkT 109 [(8, .ref (2008, 0) 0 v0_0.length), (9, .sc (.int .i64 j2_0)), (11, .sc (.int .i64 v0_3))] [((2008, 0), some ⟨9, 1, List.map strV v0_0, false, true⟩)]
def inv_i_read_3 (p0 : List Int) (v0_0 : List ByteArray) (v0_3 : Int) (x2 : Int) (x13 : Int) (j3_0 : Int) : St := mkT 109 [(0, .lst 1 (List.map byteV p0)), (8, .ref (2008, 0) 0 v0_0.length), (9, .sc (.int .i64 j3_0)), (11, .sc (.int .i64 v0_3)), (14, .sc (.int .i64 ((256 * ((IntKind.i64.wrap x2) - 192)) + (IntKind.i64.wrap x13))))] [((2008, 0), some ⟨9, 1, List.map strV v0_0, false, true⟩)]
def inv_i_read_1 (p0 : List Int) (v0_0 : List ByteArray) (v0_1 : Int) (v0_2 : Int) (v0_3 : Int) (v0_4 : Int) (j1_0 : Bool) : St := mkT 109 [(0, .lst 1 (List.map byteV p0)), (8, .ref (2008, 0) 0 v0_0.length), (9, .sc (.int .i64 v0_1)), (10, .sc (.int .i64 v0_2)), (11, .sc (.int .i64 v0_3)), (12, .sc (.int .i64 v0_4)), (28, .sc (.bool j1_0))] [((2008, 0), some ⟨9, 1, List.map strV v0_0, false, true⟩)]
def inv_i_read_0 (p0 : List Int) (v0_0 : List ByteArray) (v0_1 : Int) (v0_2 : Int) (v0_3 : Int) (v0_4 : Int) : St := mkT 109 [(0, .lst 1 (List.map byteV p0)), (8, .ref (2008, 0) 0 v0_0.length), (9, .sc (.int .i64 v0_1)), (10, .sc (.int .i64 v0_2)), (11, .sc (.int .i64 v0_3)), (12, .sc (.int .i64 v0_4))] [((2008, 0), some ⟨9, 1, List.map strV v0_0, false, true⟩)]
set_option maxRecDepth 4000 in
set_option maxHeartbeats 800000 in
theorem wi_read (p0 : List Int) (p1 : Int) (r0 : ByteArray) (r1 : Int) (r2 : Int) (r3 : Int) (h : i_read p0 p1 = some (r0, r1, r2, r3)) : Runs Tryd.prog 32 [.lst 1 (List.map byteV p0), .sc (.int .i64 p1)] [] (.tup [.sc (.string r0), .sc (.int .i64 r1), .sc (.int .i64 r2), .sc (.int .i64 r3)]) [] := by
 unfold i_read at h
 refine runsR [.tmp 4, .tmp 5, .tmp 6, .tmp 7] Tryd.func32 rfl rfl rfl rfl ?_
 rw [Tryd.ntmps32]
 refine tri_sr ?_
 refine s_mv (.inr rfl) (v := .sc (.string (⟨#[]⟩ : ByteArray))) rfl rfl rfl rfl ?_
 refine s_mv (.inr rfl) (v := .sc (.int .i64 0)) rfl rfl rfl rfl ?_
 refine s_mv (.inr rfl) (v := .sc (.int .i64 0)) rfl rfl rfl rfl ?_
 refine s_mv (.inr rfl) (v := .sc (.int .i64 0)) rfl rfl rfl rfl ?_
 refine rt_nil ?_
 refine tri_sr ?_
 refine s_buildSlice (rows' := List.map strV ([] : List ByteArray)) rfl rfl rfl sl69 zc9 rfl rfl rfl rfl rfl rfl rfl rfl rfl ?_
 refine m2 ?_
 refine rt_nil ?_
 refine tri_sr ?_
 refine s_mv (.inr rfl) (v := .sc (.int .i64 (-1))) rfl rfl rfl rfl ?_
 refine rt_nil ?_
 refine tri_sr ?_
 refine m1 ?_
 refine m2 ?_
 refine rt_nil ?_
 refine tri_sr ?_
 refine s_mv (.inr rfl) (v := .sc (.int .i64 0)) rfl rfl rfl rfl ?_
 refine rt_nil ?_
 refine tri_sr ?_
 refine m1 ?_
 refine m2 ?_
 refine rt_nil ?_
 refine tri_block ?_
 refine tri_loop (ι := { p : Nat × (List ByteArray) × Int × Int × Int × Int // i_read_l0 p0 p.1 p.2.1 p.2.2.1 p.2.2.2.1 p.2.2.2.2.1 p.2.2.2.2.2 = some (r0, r1, r2, r3) }) (fun p => inv_i_read_0 p0 p.1.2.1 p.1.2.2.1 p.1.2.2.2.1 p.1.2.2.2.2.1 p.1.2.2.2.2.2) (fun p => p.1.1) ⟨(fuel0, ([] : List ByteArray), (-1), p1, 0, p1), h⟩ ?_ ?_
 ·skip
  refine entX [((2008, 0), ⟨9, 1, List.map strV ([] : List ByteArray), false, true⟩, some (18, 0))] [] ⟨⟨rfl, _, rfl, rfl, rfl, rfl, id, rowsCv_eq rfl (allFree_map strV_free), rowsZ_map strV_len⟩, trivial⟩ trivial rfl rfl ?_
  exact ⟨(.free rfl), (.ref rfl), (.free rfl), (.free rfl), (.free rfl), (.free rfl), trivial⟩
 ·rintro ⟨⟨f0, v0_0, v0_1, v0_2, v0_3, v0_4⟩, h⟩
  replace h : i_read_l0 p0 f0 v0_0 v0_1 v0_2 v0_3 v0_4 = some (r0, r1, r2, r3) := h
  cases f0 with
  | zero => cases h
  | succ f0 =>
  rw [i_read_l0] at h
  show Tri _ _ _ (inv_i_read_0 p0 v0_0 v0_1 v0_2 v0_3 v0_4)
  refine tri_block ?_
  refine tri_seq ?_
  refine tri_cutI (ι := { p : Bool // i_read_j1 p0 v0_0 v0_1 v0_2 v0_3 v0_4 (i_read_l0 p0 f0) p = some (r0, r1, r2, r3) }) (fun p => inv_i_read_1 p0 v0_0 v0_1 v0_2 v0_3 v0_4 p.1) ?_ ?_
  ·skip
   refine tri_region ?_
   refine m1 ?_
   refine s_of (st_lss rfl rfl rfl) rfl rfl rfl rfl ?_
   refine m1 ?_
   refine s_split (t := 23) rfl (fun b1 => ?_) (fun b1 => ?_)
   ·replace h := cond_t h b1
    refine s_skip rfl rfl rfl ?_
    refine s_skip rfl rfl rfl ?_
    refine s_skip rfl rfl rfl ?_
    refine s_skip rfl rfl rfl ?_
    refine s_pickT rfl rfl (v := .sc (.bool true)) rfl rfl rfl rfl ?_
    refine rt_nil ?_
    refine Exists.intro ⟨true, h⟩ ?_
    refine entX [((2008, 0), ⟨9, 1, List.map strV v0_0, false, true⟩, some (2008, 0))] [] ⟨⟨rfl, _, rfl, rfl, rfl, rfl, id, rowsCv_eq rfl (allFree_map strV_free), rowsZ_map strV_len⟩, trivial⟩ trivial rfl rfl ?_
    exact ⟨(.free rfl), (.ref rfl), (.free rfl), (.free rfl), (.free rfl), (.free rfl), (.free rfl), trivial⟩
   ·replace h := cond_f h b1
    refine m1 ?_
    refine m1 ?_
    refine s_lenL rfl sl22 rfl rfl rfl rfl ?_
    refine s_of (st_geq rfl rfl rfl) rfl rfl rfl rfl ?_
    refine s_pickF rfl rfl (by conv => lhs; whnf) rfl rfl rfl ?_
    refine rt_nil ?_
    refine Exists.intro ⟨decide ((p0.length : Int) ≤ v0_4), h⟩ ?_
    refine entX [((2008, 0), ⟨9, 1, List.map strV v0_0, false, true⟩, some (2008, 0))] [] ⟨⟨rfl, _, rfl, rfl, rfl, rfl, id, rowsCv_eq rfl (allFree_map strV_free), rowsZ_map strV_len⟩, trivial⟩ trivial rfl rfl ?_
    exact ⟨(.free rfl), (.ref rfl), (.free rfl), (.free rfl), (.free rfl), (.free rfl), (.free rfl), trivial⟩
  ·rintro ⟨j1_0, h⟩
   replace h : i_read_j1 p0 v0_0 v0_1 v0_2 v0_3 v0_4 (i_read_l0 p0 f0) j1_0 = some (r0, r1, r2, r3) := h
   unfold i_read_j1 at h
   show Tri _ _ _ (inv_i_read_1 p0 v0_0 v0_1 v0_2 v0_3 v0_4 j1_0)
   refine tri_cond rfl (fun c1 => ?_) (fun c1 => ?_)
   ·replace h := cond_t h c1
    refine tri_sr ?_
    refine m1 ?_
    refine s_mv (.inr rfl) (v := .sc (.string (⟨#[]⟩ : ByteArray))) rfl rfl rfl rfl ?_
    refine s_mv (.inr rfl) (v := .sc (.int .i64 0)) rfl rfl rfl rfl ?_
    refine s_mv (.inr rfl) (v := .sc (.int .i64 1)) rfl rfl rfl rfl ?_
    refine m2 ?_
    refine rt_nil ?_
    refine tri_ret ?_
    have e0 := (some4 h).1; have e1 := (some4 h).2.1; have e2 := (some4 h).2.2.1; have e3 := (some4 h).2.2.2; subst e0; subst e1; subst e2; subst e3
    exact endY [] [] (rvC (resTmp rfl) (rvC (resTmp rfl) (rvC (resTmp rfl) (rvC (resTmp rfl) rvN)))) trivial trivial rfl rfl rfl rfl (CvL.tup (.cons (.free rfl) (.cons (.free rfl) (.cons (.free rfl) (.cons (.free rfl) .nil)))))
   ·replace h := cond_f h c1
    refine tri_skip ?_
    refine tri_sr ?_
    refine m1 ?_
    refine m1 ?_
    refine bnd1_elim h fun x2 q3 h => ?_
    have q3a := (idx_some q3).1; have q3b := (idx_some q3).2
    refine s_indexFZ rfl rfl rfl sl22 q3a (get_ltM q3b) rfl rfl rfl ?_
    refine s_loadF rfl rfl (rowG q3b) ty5 rfl (.inr rfl) (by conv => lhs; whnf) rfl rfl rfl ?_
    refine s_of (st_conv ik5 ik3 rfl rfl) rfl rfl rfl rfl ?_
    refine m2 ?_
    refine rt_nil ?_
    refine tri_seq ?_
    refine tri_block ?_
    refine tri_sr ?_
    refine m1 ?_
    refine s_of (st_eqI rfl rfl rfl) rfl rfl rfl rfl ?_
    refine m2 ?_
    refine rt_nil ?_
    refine tri_cond rfl (fun c4 => ?_) (fun c4 => ?_)
    ·replace h := cond_t h c4
     refine tri_cutI (ι := { p : Int // i_read_j2 v0_0 v0_3 p = some (r0, r1, r2, r3) }) (fun p => inv_i_read_2 v0_0 v0_3 p.1) ?_ ?_
     ·skip
      refine tri_sr ?_
      refine m1 ?_
      refine s_of (st_lss rfl rfl rfl) rfl rfl rfl rfl ?_
      refine rt_nil ?_
      refine tri_cond rfl (fun c5 => ?_) (fun c5 => ?_)
      ·replace h := cond_t h c5
       refine tri_region ?_
       refine m1 ?_
       refine grd_elim h fun g6 h => ?_
       refine s_addI rfl rfl rfl rfl g6 rfl rfl rfl ?_
       refine m2 ?_
       refine rt_nil ?_
       refine Exists.intro ⟨v0_4 + 1, h⟩ ?_
       refine entX [((2008, 0), ⟨9, 1, List.map strV v0_0, false, true⟩, some (2008, 0))] [] ⟨⟨rfl, _, rfl, rfl, rfl, rfl, id, rowsCv_eq rfl (allFree_map strV_free), rowsZ_map strV_len⟩, trivial⟩ trivial rfl rfl ?_
       exact ⟨(.ref rfl), (.free rfl), (.free rfl), trivial⟩
      ·replace h := cond_f h c5
       refine tri_skip ?_
       refine Exists.intro ⟨v0_1, h⟩ ?_
       refine entX [((2008, 0), ⟨9, 1, List.map strV v0_0, false, true⟩, some (2008, 0))] [] ⟨⟨rfl, _, rfl, rfl, rfl, rfl, id, rowsCv_eq rfl (allFree_map strV_free), rowsZ_map strV_len⟩, trivial⟩ trivial rfl rfl ?_
       exact ⟨(.ref rfl), (.free rfl), (.free rfl), trivial⟩
     ·rintro ⟨j2_0, h⟩
      replace h : i_read_j2 v0_0 v0_3 j2_0 = some (r0, r1, r2, r3) := h
      unfold i_read_j2 at h
      show Tri _ _ _ (inv_i_read_2 v0_0 v0_3 j2_0)
      refine tri_sr ?_
      refine m1 ?_
      refine bnd1_elim h fun x5 q6 h => ?_
      refine s_callN (kb := [(2008, 0)]) (ns := []) (v := .sc (.string x5)) rfl rfl cl44 (wi_JoinLabels v0_0 x5 q6) rfl (.cons (lendL rfl (.head _) rfl strV_free strV_len) .nil) trivial memNil .nil (fun _ _ => List.not_mem_nil) rfl trivial memNil rfl rfl rfl rfl rfl rfl ?_
      refine m1 ?_
      refine m1 ?_
      refine m2 ?_
      refine m2 ?_
      refine s_mv (.inr rfl) (v := .sc (.int .i64 0)) rfl rfl rfl rfl ?_
      refine m2 ?_
      refine rt_nil ?_
      refine tri_ret ?_
      have e0 := (some4 h).1; have e1 := (some4 h).2.1; have e2 := (some4 h).2.2.1; have e3 := (some4 h).2.2.2; subst e0; subst e1; subst e2; subst e3
      exact endY [] [] (rvC (resTmp rfl) (rvC (resTmp rfl) (rvC (resTmp rfl) (rvC (resTmp rfl) rvN)))) trivial trivial rfl rfl rfl rfl (CvL.tup (.cons (.free rfl) (.cons (.free rfl) (.cons (.free rfl) (.cons (.free rfl) .nil)))))
    ·replace h := cond_f h c4
     refine tri_sr ?_
     refine m1 ?_
     refine s_of (st_geq rfl rfl rfl) rfl rfl rfl rfl ?_
     refine m2 ?_
     refine rt_nil ?_
     refine tri_cond rfl (fun c7 => ?_) (fun c7 => ?_)
     ·replace h := cond_t h c7
      refine tri_seq ?_
      refine tri_sr ?_
      refine m1 ?_
      refine grd_elim h fun g8 h => ?_
      refine s_addI rfl rfl rfl rfl g8 rfl rfl rfl ?_
      refine m1 ?_
      refine s_lenL rfl sl22 rfl rfl rfl rfl ?_
      refine s_of (st_geq rfl rfl rfl) rfl rfl rfl rfl ?_
      refine rt_nil ?_
      refine tri_cond rfl (fun c9 => ?_) (fun c9 => ?_)
      ·replace h := cond_t h c9
       refine tri_sr ?_
       refine m1 ?_
       refine s_mv (.inr rfl) (v := .sc (.string (⟨#[]⟩ : ByteArray))) rfl rfl rfl rfl ?_
       refine s_mv (.inr rfl) (v := .sc (.int .i64 0)) rfl rfl rfl rfl ?_
       refine s_mv (.inr rfl) (v := .sc (.int .i64 1)) rfl rfl rfl rfl ?_
       refine m2 ?_
       refine rt_nil ?_
       refine tri_ret ?_
       have e0 := (some4 h).1; have e1 := (some4 h).2.1; have e2 := (some4 h).2.2.1; have e3 := (some4 h).2.2.2; subst e0; subst e1; subst e2; subst e3
       exact endY [] [] (rvC (resTmp rfl) (rvC (resTmp rfl) (rvC (resTmp rfl) (rvC (resTmp rfl) rvN)))) trivial trivial rfl rfl rfl rfl (CvL.tup (.cons (.free rfl) (.cons (.free rfl) (.cons (.free rfl) (.cons (.free rfl) .nil)))))
      ·replace h := cond_f h c9
       refine tri_skip ?_
       refine tri_sr ?_
       refine m1 ?_
       refine grd_elim h fun g10 h => ?_
       refine s_subI rfl rfl rfl rfl g10 rfl rfl rfl ?_
       refine grd_elim h fun g11 h => ?_
       refine s_mulI rfl rfl rfl rfl g11 rfl rfl rfl ?_
       refine m1 ?_
       refine m1 ?_
       refine grd_elim h fun g12 h => ?_
       refine s_addI rfl rfl rfl rfl g12 rfl rfl rfl ?_
       refine bnd1_elim h fun x13 q14 h => ?_
       have q14a := (idx_some q14).1; have q14b := (idx_some q14).2
       refine s_indexFZ rfl rfl rfl sl22 q14a (get_ltM q14b) rfl rfl rfl ?_
       refine s_loadF rfl rfl (rowG q14b) ty5 rfl (.inr rfl) (by conv => lhs; whnf) rfl rfl rfl ?_
       refine s_of (st_conv ik5 ik3 rfl rfl) rfl rfl rfl rfl ?_
       refine grd_elim h fun g15 h => ?_
       refine s_addI rfl rfl rfl rfl g15 rfl rfl rfl ?_
       refine m2 ?_
       refine rt_nil ?_
       refine tri_seq ?_
       refine tri_sr ?_
       refine m1 ?_
       refine m1 ?_
       refine s_of (st_geq rfl rfl rfl) rfl rfl rfl rfl ?_
       refine rt_nil ?_
       refine tri_cond rfl (fun c16 => ?_) (fun c16 => ?_)
       ·replace h := cond_t h c16
        refine tri_sr ?_
        refine m1 ?_
        refine s_mv (.inr rfl) (v := .sc (.string (⟨#[]⟩ : ByteArray))) rfl rfl rfl rfl ?_
        refine s_mv (.inr rfl) (v := .sc (.int .i64 0)) rfl rfl rfl rfl ?_
        refine s_mv (.inr rfl) (v := .sc (.int .i64 3)) rfl rfl rfl rfl ?_
        refine m2 ?_
        refine rt_nil ?_
        refine tri_ret ?_
        have e0 := (some4 h).1; have e1 := (some4 h).2.1; have e2 := (some4 h).2.2.1; have e3 := (some4 h).2.2.2; subst e0; subst e1; subst e2; subst e3
        exact endY [] [] (rvC (resTmp rfl) (rvC (resTmp rfl) (rvC (resTmp rfl) (rvC (resTmp rfl) rvN)))) trivial trivial rfl rfl rfl rfl (CvL.tup (.cons (.free rfl) (.cons (.free rfl) (.cons (.free rfl) (.cons (.free rfl) .nil)))))
       ·replace h := cond_f h c16
        refine tri_skip ?_
        refine tri_cutI (ι := { p : Int // i_read_j3 v0_0 v0_3 x2 x13 (i_read_l0 p0 f0) p = some (r0, r1, r2, r3) }) (fun p => inv_i_read_3 p0 v0_0 v0_3 x2 x13 p.1) ?_ ?_
        ·skip
         refine tri_sr ?_
         refine m1 ?_
         refine s_of (st_lss rfl rfl rfl) rfl rfl rfl rfl ?_
         refine rt_nil ?_
         refine tri_cond rfl (fun c17 => ?_) (fun c17 => ?_)
         ·replace h := cond_t h c17
          refine tri_region ?_
          refine m1 ?_
          refine grd_elim h fun g18 h => ?_
          refine s_addI rfl rfl rfl rfl g18 rfl rfl rfl ?_
          refine m2 ?_
          refine rt_nil ?_
          refine Exists.intro ⟨v0_4 + 2, h⟩ ?_
          refine entX [((2008, 0), ⟨9, 1, List.map strV v0_0, false, true⟩, some (2008, 0))] [] ⟨⟨rfl, _, rfl, rfl, rfl, rfl, id, rowsCv_eq rfl (allFree_map strV_free), rowsZ_map strV_len⟩, trivial⟩ trivial rfl rfl ?_
          exact ⟨(.free rfl), (.ref rfl), (.free rfl), (.free rfl), (.free rfl), trivial⟩
         ·replace h := cond_f h c17
          refine tri_skip ?_
          refine Exists.intro ⟨v0_1, h⟩ ?_
          refine entX [((2008, 0), ⟨9, 1, List.map strV v0_0, false, true⟩, some (2008, 0))] [] ⟨⟨rfl, _, rfl, rfl, rfl, rfl, id, rowsCv_eq rfl (allFree_map strV_free), rowsZ_map strV_len⟩, trivial⟩ trivial rfl rfl ?_
          exact ⟨(.free rfl), (.ref rfl), (.free rfl), (.free rfl), (.free rfl), trivial⟩
        ·rintro ⟨j3_0, h⟩
         replace h : i_read_j3 v0_0 v0_3 x2 x13 (i_read_l0 p0 f0) j3_0 = some (r0, r1, r2, r3) := h
         unfold i_read_j3 at h
         show Tri _ _ _ (inv_i_read_3 p0 v0_0 v0_3 x2 x13 j3_0)
         refine tri_sr ?_
         refine m1 ?_
         refine m2 ?_
         refine rt_nil ?_
         refine tri_sr ?_
         refine m1 ?_
         refine grd_elim h fun g17 h => ?_
         refine s_addI rfl rfl rfl rfl g17 rfl rfl rfl ?_
         refine m2 ?_
         refine rt_nil ?_
         refine tri_sr ?_
         refine m1 ?_
         refine m2 ?_
         refine rt_nil ?_
         refine tri_exit ?_
         refine Exists.intro ⟨(f0, v0_0, j3_0, (256 * ((IntKind.i64.wrap x2) - 192)) + (IntKind.i64.wrap x13), v0_3 + 1, (256 * ((IntKind.i64.wrap x2) - 192)) + (IntKind.i64.wrap x13)), h⟩ (And.intro (Nat.lt_succ_self _) ?_)
         refine entX [((2008, 0), ⟨9, 1, List.map strV v0_0, false, true⟩, some (2008, 0))] [] ⟨⟨rfl, _, rfl, rfl, rfl, rfl, id, rowsCv_eq rfl (allFree_map strV_free), rowsZ_map strV_len⟩, trivial⟩ trivial rfl rfl ?_
         exact ⟨(.free rfl), (.ref rfl), (.free rfl), (.free rfl), (.free rfl), (.free rfl), trivial⟩
     ·replace h := cond_f h c7
      refine tri_sr ?_
      refine m1 ?_
      refine s_of (st_gtr rfl rfl rfl) rfl rfl rfl rfl ?_
      refine m2 ?_
      refine rt_nil ?_
      refine tri_cond rfl (fun c19 => ?_) (fun c19 => ?_)
      ·replace h := cond_t h c19
       refine tri_sr ?_
       refine m1 ?_
       refine s_mv (.inr rfl) (v := .sc (.string (⟨#[]⟩ : ByteArray))) rfl rfl rfl rfl ?_
       refine s_mv (.inr rfl) (v := .sc (.int .i64 0)) rfl rfl rfl rfl ?_
       refine s_mv (.inr rfl) (v := .sc (.int .i64 2)) rfl rfl rfl rfl ?_
       refine m2 ?_
       refine rt_nil ?_
       refine tri_ret ?_
       have e0 := (some4 h).1; have e1 := (some4 h).2.1; have e2 := (some4 h).2.2.1; have e3 := (some4 h).2.2.2; subst e0; subst e1; subst e2; subst e3
       exact endY [] [] (rvC (resTmp rfl) (rvC (resTmp rfl) (rvC (resTmp rfl) (rvC (resTmp rfl) rvN)))) trivial trivial rfl rfl rfl rfl (CvL.tup (.cons (.free rfl) (.cons (.free rfl) (.cons (.free rfl) (.cons (.free rfl) .nil)))))
      ·replace h := cond_f h c19
       refine tri_sr ?_
       refine m1 ?_
       refine m1 ?_
       refine s_lenL rfl sl22 rfl rfl rfl rfl ?_
       refine m1 ?_
       refine grd_elim h fun g20 h => ?_
       refine s_subI rfl rfl rfl rfl g20 rfl rfl rfl ?_
       refine s_of (st_geq rfl rfl rfl) rfl rfl rfl rfl ?_
       refine m2 ?_
       refine rt_nil ?_
       refine tri_cond rfl (fun c21 => ?_) (fun c21 => ?_)
       ·replace h := cond_t h c21
        refine tri_sr ?_
        refine m1 ?_
        refine s_mv (.inr rfl) (v := .sc (.string (⟨#[]⟩ : ByteArray))) rfl rfl rfl rfl ?_
        refine s_mv (.inr rfl) (v := .sc (.int .i64 0)) rfl rfl rfl rfl ?_
        refine s_mv (.inr rfl) (v := .sc (.int .i64 1)) rfl rfl rfl rfl ?_
        refine m2 ?_
        refine rt_nil ?_
        refine tri_ret ?_
        have e0 := (some4 h).1; have e1 := (some4 h).2.1; have e2 := (some4 h).2.2.1; have e3 := (some4 h).2.2.2; subst e0; subst e1; subst e2; subst e3
        exact endY [] [] (rvC (resTmp rfl) (rvC (resTmp rfl) (rvC (resTmp rfl) (rvC (resTmp rfl) rvN)))) trivial trivial rfl rfl rfl rfl (CvL.tup (.cons (.free rfl) (.cons (.free rfl) (.cons (.free rfl) (.cons (.free rfl) .nil)))))
       ·replace h := cond_f h c21
        refine tri_skip ?_
        refine tri_sr ?_
        refine m1 ?_
        refine m1 ?_
        refine bnd3_elim h fun x22 x23 x24 q25 h => ?_
        refine s_callN (kb := []) (ns := []) (v := .tup [.sc (.string x22), .sc (.int .i64 x23), .sc (.bool x24)]) rfl rfl cl45 (wi_GetLabel p0 v0_4 x22 x23 x24 q25) rfl (.cons (.free rfl) (.cons (.free rfl) .nil)) trivial memNil .nil memNil rfl trivial memNil rfl rfl rfl rfl rfl rfl ?_
        refine m1 ?_
        refine s_extract rfl rfl rfl rfl rfl rfl ?_
        refine s_extract rfl rfl rfl rfl rfl rfl ?_
        refine s_extract rfl rfl rfl rfl rfl rfl ?_
        refine m2 ?_
        refine m2 ?_
        refine m2 ?_
        refine rt_nil ?_
        refine tri_seq ?_
        refine tri_sr ?_
        refine m1 ?_
        refine s_of (st_not rfl rfl) rfl rfl rfl rfl ?_
        refine rt_nil ?_
        refine tri_cond rfl (fun c26 => ?_) (fun c26 => ?_)
        ·replace h := cond_t h c26
         refine tri_sr ?_
         refine m1 ?_
         refine s_mv (.inr rfl) (v := .sc (.string (⟨#[]⟩ : ByteArray))) rfl rfl rfl rfl ?_
         refine s_mv (.inr rfl) (v := .sc (.int .i64 0)) rfl rfl rfl rfl ?_
         refine s_mv (.inr rfl) (v := .sc (.int .i64 2)) rfl rfl rfl rfl ?_
         refine m2 ?_
         refine rt_nil ?_
         refine tri_ret ?_
         have e0 := (some4 h).1; have e1 := (some4 h).2.1; have e2 := (some4 h).2.2.1; have e3 := (some4 h).2.2.2; subst e0; subst e1; subst e2; subst e3
         exact endY [] [] (rvC (resTmp rfl) (rvC (resTmp rfl) (rvC (resTmp rfl) (rvC (resTmp rfl) rvN)))) trivial trivial rfl rfl rfl rfl (CvL.tup (.cons (.free rfl) (.cons (.free rfl) (.cons (.free rfl) (.cons (.free rfl) .nil)))))
        ·replace h := cond_f h c26
         refine tri_skip ?_
         refine tri_sr ?_
         refine m1 ?_
         refine m1 ?_
         refine s_buildSlice (rows' := List.map strV [x22]) rfl rfl rfl sl69 zc9 rfl rfl rfl rfl rfl rfl rfl rfl rfl ?_
         refine grd_elim h fun g27 h => ?_
         refine s_appL rfl rfl rfl sl69 zc9 rfl rfl rfl rfl rfl rfl (src_refL rfl rfl) g27 rfl rfl ?_
         refine m2 ?_
         refine rt_nil ?_
         refine tri_seq ?_
         refine tri_sr ?_
         refine m1 ?_
         refine bnd1_elim h fun x28 q29 h => ?_
         refine s_callN (kb := [(102, 0)]) (ns := []) (v := .sc (.string x28)) rfl rfl cl44 (wi_JoinLabels (v0_0 ++ [x22]) x28 q29) rfl (.cons (lendL rfl (.head _) rfl strV_free strV_len) .nil) trivial memNil .nil (fun _ _ => List.not_mem_nil) rfl trivial memNil rfl rfl rfl rfl rfl rfl ?_
         refine bnd1_elim h fun x30 q31 h => ?_
         refine s_callN (kb := []) (ns := []) (v := .sc (.bool x30)) rfl rfl cl34 (wi_NameOk x28 x30 q31) rfl (.cons (.free rfl) .nil) trivial memNil .nil memNil rfl trivial memNil rfl rfl rfl rfl rfl rfl ?_
         refine s_of (st_not rfl rfl) rfl rfl rfl rfl ?_
         refine rt_nil ?_
         refine tri_cond rfl (fun c32 => ?_) (fun c32 => ?_)
         ·replace h := cond_t h c32
          refine tri_sr ?_
          refine m1 ?_
          refine s_mv (.inr rfl) (v := .sc (.string (⟨#[]⟩ : ByteArray))) rfl rfl rfl rfl ?_
          refine s_mv (.inr rfl) (v := .sc (.int .i64 0)) rfl rfl rfl rfl ?_
          refine s_mv (.inr rfl) (v := .sc (.int .i64 4)) rfl rfl rfl rfl ?_
          refine m2 ?_
          refine rt_nil ?_
          refine tri_ret ?_
          have e0 := (some4 h).1; have e1 := (some4 h).2.1; have e2 := (some4 h).2.2.1; have e3 := (some4 h).2.2.2; subst e0; subst e1; subst e2; subst e3
          exact endY [] [] (rvC (resTmp rfl) (rvC (resTmp rfl) (rvC (resTmp rfl) (rvC (resTmp rfl) rvN)))) trivial trivial rfl rfl rfl rfl (CvL.tup (.cons (.free rfl) (.cons (.free rfl) (.cons (.free rfl) (.cons (.free rfl) .nil)))))
         ·replace h := cond_f h c32
          refine tri_skip ?_
          refine tri_region ?_
          refine m1 ?_
          refine m2 ?_
          refine rt_nil ?_
          refine Exists.intro ⟨(f0, v0_0 ++ [x22], v0_1, v0_2, v0_3, x23), h⟩ (And.intro (Nat.lt_succ_self _) ?_)
          refine entX [((2008, 0), ⟨9, 1, List.map strV (v0_0 ++ [x22]), false, true⟩, some (102, 0))] [] ⟨⟨rfl, _, rfl, rfl, rfl, rfl, id, rowsCv_eq rfl (allFree_map strV_free), rowsZ_map strV_len⟩, trivial⟩ trivial rfl rfl ?_
          exact ⟨(.free rfl), (.ref rfl), (.free rfl), (.free rfl), (.free rfl), (.free rfl), trivial⟩

/- impl.GetName -/

set_option maxRecDepth 4000 in
set_option maxHeartbeats 800000 in
theorem wi_GetName (p0 : List Int) (p1 : Int) (r0 : ByteArray) (r1 : Int) (r2 : Int) (h : i_GetName p0 p1 = some (r0, r1, r2)) : Runs Tryd.prog 19 [.lst 1 (List.map byteV p0), .sc (.int .i64 p1)] [] (.tup [.sc (.string r0), .sc (.int .i64 r1), .sc (.int .i64 r2)]) [] := by
 unfold i_GetName at h
 refine runsR [.tmp 4, .tmp 5, .tmp 6] Tryd.func19 rfl rfl rfl rfl ?_
 rw [Tryd.ntmps19]
 refine tri_sr ?_
 refine s_mv (.inr rfl) (v := .sc (.string (⟨#[]⟩ : ByteArray))) rfl rfl rfl rfl ?_
 refine s_mv (.inr rfl) (v := .sc (.int .i64 0)) rfl rfl rfl rfl ?_
 refine s_mv (.inr rfl) (v := .sc (.int .i64 0)) rfl rfl rfl rfl ?_
 refine rt_nil ?_
 refine tri_sr ?_
 refine m1 ?_
 refine m1 ?_
 refine bnd4_elim h fun x1 x2 x3 x4 q5 h => ?_
 refine s_callN (kb := []) (ns := []) (v := .tup [.sc (.string x1), .sc (.int .i64 x2), .sc (.int .i64 x3), .sc (.int .i64 x4)]) rfl rfl cl32 (wi_read p0 p1 x1 x2 x3 x4 q5) rfl (.cons (.free rfl) (.cons (.free rfl) .nil)) trivial memNil .nil memNil rfl trivial memNil rfl rfl rfl rfl rfl rfl ?_
 refine m1 ?_
 refine s_extract rfl rfl rfl rfl rfl rfl ?_
 refine s_extract rfl rfl rfl rfl rfl rfl ?_
 refine s_extract rfl rfl rfl rfl rfl rfl ?_
 refine s_extract rfl rfl rfl rfl rfl rfl ?_
 refine m2 ?_
 refine m2 ?_
 refine m2 ?_
 refine m2 ?_
 refine rt_nil ?_
 refine tri_sr ?_
 refine m1 ?_
 refine m1 ?_
 refine m1 ?_
 refine m2 ?_
 refine m2 ?_
 refine m2 ?_
 refine rt_nil ?_
 refine tri_ret ?_
 have e0 := (some3 h).1; have e1 := (some3 h).2.1; have e2 := (some3 h).2.2; subst e0; subst e1; subst e2
 exact endY [] [] (rvC (resTmp rfl) (rvC (resTmp rfl) (rvC (resTmp rfl) rvN))) trivial trivial rfl rfl rfl rfl (CvL.tup (.cons (.free rfl) (.cons (.free rfl) (.cons (.free rfl) .nil))))

/- impl.TypeText -/

set_option maxRecDepth 4000 in
set_option maxHeartbeats 800000 in
theorem wi_TypeText (p0 : Int) (r0 : ByteArray) (h : i_TypeText p0 = some r0) : Runs Tryd.prog 50 [.sc (.int .i64 p0)] [] (.sc (.string r0)) [] := by
 unfold i_TypeText at h
 refine runsR [.tmp 2] Tryd.func50 rfl rfl rfl rfl ?_
 rw [Tryd.ntmps50]
 refine tri_sr ?_
 refine s_mv (.inr rfl) (v := .sc (.string (⟨#[]⟩ : ByteArray))) rfl rfl rfl rfl ?_
 refine rt_nil ?_
 refine tri_seq ?_
 refine tri_sr ?_
 refine m1 ?_
 refine rt_nil ?_
 refine tri_block ?_
 refine tri_sr ?_
 refine s_of (st_eqI rfl rfl rfl) rfl rfl rfl rfl ?_
 refine m2 ?_
 refine rt_nil ?_
 refine tri_cond rfl (fun c1 => ?_) (fun c1 => ?_)
 ·replace h := cond_t h c1
  refine tri_sr ?_
  refine s_mv (.inr rfl) (v := .sc (.string (⟨#[97, 100, 100, 114]⟩ : ByteArray))) rfl rfl rfl rfl ?_
  refine rt_nil ?_
  refine tri_ret ?_
  have e0 := (some1 h); subst e0
  exact endY [] [] (rvC (resTmp rfl) rvN) trivial trivial rfl rfl rfl rfl (.free rfl)
 ·replace h := cond_f h c1
  refine tri_sr ?_
  refine s_of (st_eqI rfl rfl rfl) rfl rfl rfl rfl ?_
  refine m2 ?_
  refine rt_nil ?_
  refine tri_cond rfl (fun c2 => ?_) (fun c2 => ?_)
  ·replace h := cond_t h c2
   refine tri_sr ?_
   refine s_mv (.inr rfl) (v := .sc (.string (⟨#[115, 101, 114, 118, 101, 114]⟩ : ByteArray))) rfl rfl rfl rfl ?_
   refine rt_nil ?_
   refine tri_ret ?_
   have e0 := (some1 h); subst e0
   exact endY [] [] (rvC (resTmp rfl) rvN) trivial trivial rfl rfl rfl rfl (.free rfl)
  ·replace h := cond_f h c2
   refine tri_sr ?_
   refine s_of (st_eqI rfl rfl rfl) rfl rfl rfl rfl ?_
   refine m2 ?_
   refine rt_nil ?_
   refine tri_cond rfl (fun c3 => ?_) (fun c3 => ?_)
   ·replace h := cond_t h c3
    refine tri_sr ?_
    refine s_mv (.inr rfl) (v := .sc (.string (⟨#[97, 108, 105, 97, 115]⟩ : ByteArray))) rfl rfl rfl rfl ?_
    refine rt_nil ?_
    refine tri_ret ?_
    have e0 := (some1 h); subst e0
    exact endY [] [] (rvC (resTmp rfl) rvN) trivial trivial rfl rfl rfl rfl (.free rfl)
   ·replace h := cond_f h c3
    refine tri_sr ?_
    refine s_of (st_eqI rfl rfl rfl) rfl rfl rfl rfl ?_
    refine m2 ?_
    refine rt_nil ?_
    refine tri_cond rfl (fun c4 => ?_) (fun c4 => ?_)
    ·replace h := cond_t h c4
     refine tri_sr ?_
     refine s_mv (.inr rfl) (v := .sc (.string (⟨#[115, 116, 97, 114, 116]⟩ : ByteArray))) rfl rfl rfl rfl ?_
     refine rt_nil ?_
     refine tri_ret ?_
     have e0 := (some1 h); subst e0
     exact endY [] [] (rvC (resTmp rfl) rvN) trivial trivial rfl rfl rfl rfl (.free rfl)
    ·replace h := cond_f h c4
     refine tri_sr ?_
     refine s_of (st_eqI rfl rfl rfl) rfl rfl rfl rfl ?_
     refine m2 ?_
     refine rt_nil ?_
     refine tri_cond rfl (fun c5 => ?_) (fun c5 => ?_)
     ·replace h := cond_t h c5
      refine tri_sr ?_
      refine s_mv (.inr rfl) (v := .sc (.string (⟨#[116, 101, 120, 116]⟩ : ByteArray))) rfl rfl rfl rfl ?_
      refine rt_nil ?_
      refine tri_ret ?_
      have e0 := (some1 h); subst e0
      exact endY [] [] (rvC (resTmp rfl) rvN) trivial trivial rfl rfl rfl rfl (.free rfl)
     ·replace h := cond_f h c5
      refine tri_skip ?_
      refine tri_sr ?_
      refine s_mv (.inr rfl) (v := .sc (.string (⟨#[]⟩ : ByteArray))) rfl rfl rfl rfl ?_
      refine rt_nil ?_
      refine tri_ret ?_
      have e0 := (some1 h); subst e0
      exact endY [] [] (rvC (resTmp rfl) rvN) trivial trivial rfl rfl rfl rfl (.free rfl)

/- impl.TypeOk -/

set_option maxRecDepth 4000 in
set_option maxHeartbeats 800000 in
theorem wi_TypeOk (p0 : Int) (r0 : Bool) (h : i_TypeOk p0 = some r0) : Runs Tryd.prog 35 [.sc (.int .i64 p0)] [] (.sc (.bool r0)) [] := by
 unfold i_TypeOk at h
 refine runsR [.tmp 2] Tryd.func35 rfl rfl rfl rfl ?_
 rw [Tryd.ntmps35]
 refine tri_sr ?_
 refine s_mv (.inr rfl) (v := .sc (.bool false)) rfl rfl rfl rfl ?_
 refine rt_nil ?_
 refine tri_sr ?_
 refine m1 ?_
 refine bnd1_elim h fun x1 q2 h => ?_
 refine s_callN (kb := []) (ns := []) (v := .sc (.string x1)) rfl rfl cl50 (wi_TypeText p0 x1 q2) rfl (.cons (.free rfl) .nil) trivial memNil .nil memNil rfl trivial memNil rfl rfl rfl rfl rfl rfl ?_
 refine s_of (st_neS rfl rfl rfl) rfl rfl rfl rfl ?_
 refine m2 ?_
 refine rt_nil ?_
 refine tri_ret ?_
 have e0 := (some1 h); subst e0
 exact endY [] [] (rvC (resTmp rfl) rvN) trivial trivial rfl rfl rfl rfl (.free rfl)

/- impl.QuestOk -/

set_option maxRecDepth 4000 in
set_option maxHeartbeats 800000 in
theorem wi_QuestOk (p0 : Quest) (r0 : Bool) (h : i_QuestOk p0 = some r0) : Runs Tryd.prog 21 [.agg (questV p0)] [] (.sc (.bool r0)) [] := by
 unfold i_QuestOk at h
 refine runsR [.tmp 2] Tryd.func21 rfl rfl rfl rfl ?_
 rw [Tryd.ntmps21]
 refine tri_sr ?_
 refine s_box rfl rfl rfl rfl rfl rfl rfl ?_
 refine s_mv (.inr rfl) (v := .sc (.bool false)) rfl rfl rfl rfl ?_
 refine rt_nil ?_
 refine tri_sr ?_
 refine s_fieldAddr rfl rfl fd24_0 rfl rfl rfl rfl ?_
 refine s_load rfl rfl rfl rfl ty9 rfl (.inr rfl) (by conv => lhs; whnf) rfl rfl rfl ?_
 refine bnd1_elim h fun x1 q2 h => ?_
 refine s_callN (kb := []) (ns := []) (v := .sc (.bool x1)) rfl rfl cl34 (wi_NameOk p0.name x1 q2) rfl (.cons (.free rfl) .nil) trivial memNil .nil memNil rfl trivial memNil rfl rfl rfl rfl rfl rfl ?_
 refine m1 ?_
 refine s_split (t := 6) rfl (fun b3 => ?_) (fun b3 => ?_)
 ·replace h := cond_t h b3
  refine s_fieldAddr rfl rfl fd24_1 rfl rfl rfl rfl ?_
  refine s_load rfl rfl rfl rfl ty3 rfl (.inr rfl) (by conv => lhs; whnf) rfl rfl rfl ?_
  refine bnd1_elim h fun x4 q5 h => ?_
  refine s_callN (kb := []) (ns := []) (v := .sc (.bool x4)) rfl rfl cl35 (wi_TypeOk p0.ty x4 q5) rfl (.cons (.free rfl) .nil) trivial memNil .nil memNil rfl trivial memNil rfl rfl rfl rfl rfl rfl ?_
  refine s_pickT rfl rfl (by conv => lhs; whnf) rfl rfl rfl ?_
  refine m2 ?_
  refine rt_nil ?_
  refine tri_ret ?_
  have e0 := (some1 h); subst e0
  exact endY [] [] (rvC (resTmp rfl) rvN) trivial trivial rfl rfl rfl rfl (.free rfl)
 ·replace h := cond_f h b3
  refine s_skip rfl rfl rfl ?_
  refine s_skip rfl rfl rfl ?_
  refine s_skip rfl rfl rfl ?_
  refine s_pickF rfl rfl (v := .sc (.bool false)) rfl rfl rfl rfl ?_
  refine m2 ?_
  refine rt_nil ?_
  refine tri_ret ?_
  have e0 := (some1 h); subst e0
  exact endY [] [] (rvC (resTmp rfl) rvN) trivial trivial rfl rfl rfl rfl (.free rfl)

end Go.Abs.M
