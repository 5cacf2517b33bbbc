/- Walks of the functions that the law of FnDataSame reaches: what each of them computes, where its pure function does not fail. -/
import Derived.Test.YtbkmnbpgpklojaaDoorWalkFnDataSame1
set_option linter.unusedSimpArgs false
set_option linter.unusedVariables false
namespace Go.Abs.M
open Go Go.Abs Go.Proofs
theorem cl11 : callable Tryd.prog 11 = true := by kernel_rfl
theorem cl35 : callable Tryd.prog 35 = true := by kernel_rfl
theorem cl36 : callable Tryd.prog 36 = true := by kernel_rfl
theorem cl37 : callable Tryd.prog 37 = true := by kernel_rfl
theorem cl38 : callable Tryd.prog 38 = true := by kernel_rfl
theorem cl39 : callable Tryd.prog 39 = true := by kernel_rfl
theorem cl40 : callable Tryd.prog 40 = true := by kernel_rfl
theorem cl41 : callable Tryd.prog 41 = true := by kernel_rfl
theorem cl42 : callable Tryd.prog 42 = true := by kernel_rfl
theorem cl43 : callable Tryd.prog 43 = true := by kernel_rfl
theorem cl44 : callable Tryd.prog 44 = true := by kernel_rfl
theorem cl45 : callable Tryd.prog 45 = true := by kernel_rfl
theorem cl47 : callable Tryd.prog 47 = true := by kernel_rfl
theorem isb4 : isBool Tryd.prog 4 = true := by kernel_rfl
/- laws.FnDataSame -/
def inv_w_FnDataSame_0 (x4 : List Rec) (x5 : List Rec) (j0_0 : Bool) : St := mkT 76 [(3, .ref (12, 100) 0 x4.length), (4, .lst 6 (List.map recV x5)), (46, .sc (.bool j0_0))] [((12, 100), some ⟨39, 6, List.map recV x4, false, true⟩)]
set_option maxRecDepth 4000 in
set_option maxHeartbeats 800000 in
theorem ww_FnDataSame (p0 : List Int) (r0 : Bool) (h : w_FnDataSame p0 = some r0) : Runs Tryd.prog 6 [.lst 1 (List.map byteV p0)] [] (.sc (.bool r0)) [] := by
 unfold w_FnDataSame at h
 refine runsR [.tmp 2] Tryd.func6 rfl rfl rfl rfl ?_
 rw [Tryd.ntmps6]
 refine tri_sr ?_
 refine s_mv (.inr rfl) (v := .sc (.bool false)) rfl rfl rfl rfl ?_
 refine rt_nil ?_
 refine tri_seq ?_
 refine tri_sr ?_
 refine m1 ?_
 refine bnd1_elim h fun x1 q2 h => ?_
 refine s_callN (kb := []) (ns := []) (v := .sc (.bool x1)) rfl rfl cl11 (ww_big p0 x1 q2) rfl (.cons (.free rfl) .nil) trivial memNil .nil memNil rfl trivial memNil rfl rfl rfl rfl rfl rfl ?_
 refine rt_nil ?_
 refine tri_cond rfl (fun c3 => ?_) (fun c3 => ?_)
 ·replace h := cond_t h c3
  refine tri_sr ?_
  refine s_mv (.inr rfl) (v := .sc (.bool true)) rfl rfl rfl rfl ?_
  refine rt_nil ?_
  refine tri_ret ?_
  have e0 := (some1 h); subst e0
  exact endY [] [] (rvC (resTmp rfl) rvN) trivial trivial rfl rfl rfl rfl (.free rfl)
 ·replace h := cond_f h c3
  refine tri_skip ?_
  refine tri_sr ?_
  refine m1 ?_
  refine bnd2_elim h fun x4 x5 q6 h => ?_
  refine s_callZ (kb := []) (ns := []) (v := .tup [.ref (12, 100) 0 x4.length, .lst 6 (List.map recV x5)]) rfl rfl cl35 (ws_DrawSameData p0 x4 x5 q6) rfl (.cons (.free rfl) .nil) trivial memNil .nil memNil trivial rfl ⟨(allFree_map recV_free), trivial⟩ memNil rfl (by simp only [V.mat, V.mat1, V.mat0, matL, matT, List.length_map] <;> rfl) rfl rfl rfl rfl ?_
  refine m1 ?_
  refine s_extract rfl rfl rfl rfl rfl rfl ?_
  refine s_extract rfl rfl rfl rfl rfl rfl ?_
  refine m2 ?_
  refine m2 ?_
  refine rt_nil ?_
  refine tri_sr ?_
  refine m1 ?_
  refine bnd1_elim h fun x7 q8 h => ?_
  refine s_callN (kb := []) (ns := []) (v := .ref (16, 0) 0 x7.length) rfl rfl cl36 (ws_DrawHosts p0 x7 q8) rfl (.cons (.free rfl) .nil) trivial memNil .nil memNil rfl ⟨(allSc_map recV_sc), trivial⟩ memNil rfl (by simp only [V.mat, V.mat1, V.mat0, matL, matT, List.length_map] <;> rfl) rfl rfl rfl rfl ?_
  refine m2 ?_
  refine rt_nil ?_
  refine tri_sr ?_
  refine m1 ?_
  refine bnd2_elim h fun x9 x10 q11 h => ?_
  refine s_callN (kb := []) (ns := []) (v := .tup [.ref (19, 100) 0 x9.length, .sc (.string x10)]) rfl rfl cl37 (ws_DrawAddrs p0 x9 x10 q11) rfl (.cons (.free rfl) .nil) trivial memNil .nil memNil rfl ⟨(allSc_map recV_sc), trivial⟩ memNil rfl (by simp only [V.mat, V.mat1, V.mat0, matL, matT, List.length_map] <;> rfl) rfl rfl rfl rfl ?_
  refine m1 ?_
  refine s_extract rfl rfl rfl rfl rfl rfl ?_
  refine s_extract rfl rfl rfl rfl rfl rfl ?_
  refine m2 ?_
  refine m2 ?_
  refine rt_nil ?_
  refine tri_seq ?_
  refine tri_cutI (ι := { p : Bool // w_FnDataSame_j0 x4 x5 p = some r0 }) (fun p => inv_w_FnDataSame_0 x4 x5 p.1) ?_ ?_
  ·skip
   refine tri_region ?_
   refine m1 ?_
   refine m1 ?_
   refine bnd1_elim h fun x12 q13 h => ?_
   refine s_callN (kb := [(12, 100)]) (ns := []) (v := .sc (.bool x12)) rfl rfl cl38 (wi_SameData x4 x5 x12 q13) rfl (.cons (lendL rfl (.head _) rfl recV_free recV_len) (.cons (.free rfl) .nil)) trivial memNil .nil (fun _ _ => List.not_mem_nil) rfl trivial memNil rfl rfl rfl rfl rfl rfl ?_
   refine m1 ?_
   refine m1 ?_
   refine bnd1_elim h fun x14 q15 h => ?_
   refine s_callN (kb := [(12, 100)]) (ns := []) (v := .sc (.bool x14)) rfl rfl cl39 (ws_SameData x4 x5 x14 q15) rfl (.cons (lendL rfl (.head _) rfl recV_free recV_len) (.cons (.free rfl) .nil)) trivial memNil .nil (fun _ _ => List.not_mem_nil) rfl trivial memNil rfl rfl rfl rfl rfl rfl ?_
   refine s_of (st_neB isb4 rfl rfl rfl) rfl rfl rfl rfl ?_
   refine m1 ?_
   refine s_split (t := 29) rfl (fun b16 => ?_) (fun b16 => ?_)
   ·replace h := cond_t h b16
    refine s_skip rfl rfl rfl ?_
    refine s_skip rfl rfl rfl ?_
    refine s_skip rfl rfl rfl ?_
    refine s_skip rfl rfl rfl ?_
    refine s_skip rfl rfl rfl ?_
    refine s_skip rfl rfl rfl ?_
    refine s_pickT rfl rfl (v := .sc (.bool true)) rfl rfl rfl rfl ?_
    refine m1 ?_
    refine s_skip rfl rfl rfl ?_
    refine s_skip rfl rfl rfl ?_
    refine s_skip rfl rfl rfl ?_
    refine s_skip rfl rfl rfl ?_
    refine s_skip rfl rfl rfl ?_
    refine s_skip rfl rfl rfl ?_
    refine s_skip rfl rfl rfl ?_
    refine s_skip rfl rfl rfl ?_
    refine s_pickT rfl rfl (v := .sc (.bool true)) rfl rfl rfl rfl ?_
    refine rt_nil ?_
    refine Exists.intro ⟨true, h⟩ ?_
    refine entX [((12, 100), ⟨39, 6, List.map recV x4, false, true⟩, some (12, 100))] [] ⟨⟨rfl, _, rfl, rfl, rfl, rfl, id, rowsCv_eq rfl (allFree_map recV_free), rowsZ_map recV_len⟩, trivial⟩ trivial rfl rfl ?_
    exact ⟨(.ref rfl), (.free rfl), (.free rfl), trivial⟩
   ·replace h := cond_f h b16
    refine m1 ?_
    refine bnd1_elim h fun x17 q18 h => ?_
    refine s_callN (kb := [(16, 0)]) (ns := []) (v := .ref (31, 0) 0 x17.length) rfl rfl cl41 (wi_Hosts x7 x17 q18) rfl (.cons (lendL rfl (.head _) rfl recV_free recV_len) .nil) trivial memNil .nil (fun _ _ => List.not_mem_nil) rfl ⟨(allSc_map strV_sc), trivial⟩ memNil rfl (by simp only [V.mat, V.mat1, V.mat0, matL, matT, List.length_map] <;> rfl) rfl rfl rfl rfl ?_
    refine m1 ?_
    refine bnd1_elim h fun x19 q20 h => ?_
    refine s_callN (kb := [(16, 0)]) (ns := []) (v := .ref (33, 0) 0 x19.length) rfl rfl cl42 (ws_Hosts x7 x19 q20) rfl (.cons (lendL rfl (.head _) rfl recV_free recV_len) .nil) trivial memNil .nil (fun _ _ => List.not_mem_nil) rfl ⟨(allSc_map strV_sc), trivial⟩ memNil rfl (by simp only [V.mat, V.mat1, V.mat0, matL, matT, List.length_map] <;> rfl) rfl rfl rfl rfl ?_
    refine bnd1_elim h fun x21 q22 h => ?_
    refine s_callN (kb := [(31, 0), (33, 0)]) (ns := []) (v := .sc (.bool x21)) rfl rfl cl40 (ww_sameStrs x17 x19 x21 q22) rfl (.cons (lendL rfl (.head _) rfl strV_free strV_len) (.cons (lendL rfl (.tail _ (.head _)) rfl strV_free strV_len) .nil)) trivial memNil .nil (fun _ _ => List.not_mem_nil) rfl trivial memNil rfl rfl rfl rfl rfl rfl ?_
    refine s_of (st_not rfl rfl) rfl rfl rfl rfl ?_
    refine s_pickF rfl rfl (by conv => lhs; whnf) rfl rfl rfl ?_
    refine m1 ?_
    refine s_split (t := 37) rfl (fun b23 => ?_) (fun b23 => ?_)
    ·replace h := cond_t h b23
     refine s_skip rfl rfl rfl ?_
     refine s_skip rfl rfl rfl ?_
     refine s_skip rfl rfl rfl ?_
     refine s_skip rfl rfl rfl ?_
     refine s_skip rfl rfl rfl ?_
     refine s_skip rfl rfl rfl ?_
     refine s_skip rfl rfl rfl ?_
     refine s_skip rfl rfl rfl ?_
     refine s_pickT rfl rfl (v := .sc (.bool true)) rfl rfl rfl rfl ?_
     refine rt_nil ?_
     refine Exists.intro ⟨true, h⟩ ?_
     refine entX [((12, 100), ⟨39, 6, List.map recV x4, false, true⟩, some (12, 100))] [] ⟨⟨rfl, _, rfl, rfl, rfl, rfl, id, rowsCv_eq rfl (allFree_map recV_free), rowsZ_map recV_len⟩, trivial⟩ trivial rfl rfl ?_
     exact ⟨(.ref rfl), (.free rfl), (.free rfl), trivial⟩
    ·replace h := cond_f h b23
     refine m1 ?_
     refine m1 ?_
     refine bnd1_elim h fun x24 q25 h => ?_
     refine s_callN (kb := [(19, 100)]) (ns := []) (v := .ref (40, 0) 0 x24.length) rfl rfl cl44 (wi_Addrs x9 x10 x24 q25) rfl (.cons (lendL rfl (.head _) rfl recV_free recV_len) (.cons (.free rfl) .nil)) trivial memNil .nil (fun _ _ => List.not_mem_nil) rfl ⟨(allSc_map intV_sc), trivial⟩ memNil rfl (by simp only [V.mat, V.mat1, V.mat0, matL, matT, List.length_map] <;> rfl) rfl rfl rfl rfl ?_
     refine m1 ?_
     refine m1 ?_
     refine bnd1_elim h fun x26 q27 h => ?_
     refine s_callN (kb := [(19, 100)]) (ns := []) (v := .ref (43, 0) 0 x26.length) rfl rfl cl45 (ws_Addrs x9 x10 x26 q27) rfl (.cons (lendL rfl (.head _) rfl recV_free recV_len) (.cons (.free rfl) .nil)) trivial memNil .nil (fun _ _ => List.not_mem_nil) rfl ⟨(allSc_map intV_sc), trivial⟩ memNil rfl (by simp only [V.mat, V.mat1, V.mat0, matL, matT, List.length_map] <;> rfl) rfl rfl rfl rfl ?_
     refine bnd1_elim h fun x28 q29 h => ?_
     refine s_callN (kb := [(40, 0), (43, 0)]) (ns := []) (v := .sc (.bool x28)) rfl rfl cl43 (ww_sameInts x24 x26 x28 q29) rfl (.cons (lendL rfl (.head _) rfl intV_free intV_len) (.cons (lendL rfl (.tail _ (.head _)) rfl intV_free intV_len) .nil)) trivial memNil .nil (fun _ _ => List.not_mem_nil) rfl trivial memNil rfl rfl rfl rfl rfl rfl ?_
     refine s_of (st_not rfl rfl) rfl rfl rfl rfl ?_
     refine s_pickF rfl rfl (by conv => lhs; whnf) rfl rfl rfl ?_
     refine rt_nil ?_
     refine Exists.intro ⟨!x28, h⟩ ?_
     refine entX [((12, 100), ⟨39, 6, List.map recV x4, false, true⟩, some (12, 100))] [] ⟨⟨rfl, _, rfl, rfl, rfl, rfl, id, rowsCv_eq rfl (allFree_map recV_free), rowsZ_map recV_len⟩, trivial⟩ trivial rfl rfl ?_
     exact ⟨(.ref rfl), (.free rfl), (.free rfl), trivial⟩
  ·rintro ⟨j0_0, h⟩
   replace h : w_FnDataSame_j0 x4 x5 j0_0 = some r0 := h
   unfold w_FnDataSame_j0 at h
   show Tri _ _ _ (inv_w_FnDataSame_0 x4 x5 j0_0)
   refine tri_cond rfl (fun c12 => ?_) (fun c12 => ?_)
   ·replace h := cond_t h c12
    refine tri_sr ?_
    refine s_mv (.inr rfl) (v := .sc (.bool false)) rfl rfl rfl rfl ?_
    refine rt_nil ?_
    refine tri_ret ?_
    have e0 := (some1 h); subst e0
    exact endY [] [] (rvC (resTmp rfl) rvN) trivial trivial rfl rfl rfl rfl (.free rfl)
   ·replace h := cond_f h c12
    refine tri_skip ?_
    refine tri_sr ?_
    refine m1 ?_
    refine m1 ?_
    refine bnd1_elim h fun x13 q14 h => ?_
    refine s_callN (kb := [(12, 100)]) (ns := []) (v := .sc (.bool x13)) rfl rfl cl38 (wi_SameData x4 x5 x13 q14) rfl (.cons (lendL rfl (.head _) rfl recV_free recV_len) (.cons (.free rfl) .nil)) trivial memNil .nil (fun _ _ => List.not_mem_nil) rfl trivial memNil rfl rfl rfl rfl rfl rfl ?_
    refine m1 ?_
    refine m1 ?_
    refine bnd1_elim h fun x15 q16 h => ?_
    refine s_callN (kb := [(12, 100)]) (ns := []) (v := .sc (.bool x15)) rfl rfl cl38 (wi_SameData x5 x4 x15 q16) rfl (.cons (.free rfl) (.cons (lendL rfl (.head _) rfl recV_free recV_len) .nil)) trivial memNil .nil (fun _ _ => List.not_mem_nil) rfl trivial memNil rfl rfl rfl rfl rfl rfl ?_
    refine s_of (st_eqB isb4 rfl rfl rfl) rfl rfl rfl rfl ?_
    refine m1 ?_
    refine s_split (t := 54) rfl (fun b17 => ?_) (fun b17 => ?_)
    ·replace h := cond_t h b17
     refine m1 ?_
     refine m1 ?_
     refine bnd1_elim h fun x18 q19 h => ?_
     refine s_callN (kb := [(12, 100)]) (ns := []) (v := .ref (57, 0) 0 x18.length) rfl rfl cl47 (wi_SortRecords x4 x18 q19) rfl (.cons (lendL rfl (.head _) rfl recV_free recV_len) .nil) trivial memNil .nil (fun _ _ => List.not_mem_nil) rfl ⟨(allSc_map recV_sc), trivial⟩ memNil rfl (by simp only [V.mat, V.mat1, V.mat0, matL, matT, List.length_map] <;> rfl) rfl rfl rfl rfl ?_
     refine bnd1_elim h fun x20 q21 h => ?_
     refine s_callN (kb := [(57, 0)]) (ns := []) (v := .ref (58, 0) 0 x20.length) rfl rfl cl46 (wi_WithTtl x18 7 x20 q21) rfl (.cons (lendL rfl (.head _) rfl recV_free recV_len) (.cons (.free rfl) .nil)) trivial memNil .nil (fun _ _ => List.not_mem_nil) rfl ⟨(allSc_map recV_sc), trivial⟩ memNil rfl (by simp only [V.mat, V.mat1, V.mat0, matL, matT, List.length_map] <;> rfl) rfl rfl rfl rfl ?_
     refine bnd1_elim h fun x22 q23 h => ?_
     refine s_callN (kb := [(12, 100), (58, 0)]) (ns := []) (v := .sc (.bool x22)) rfl rfl cl38 (wi_SameData x4 x20 x22 q23) rfl (.cons (lendL rfl (.head _) rfl recV_free recV_len) (.cons (lendL rfl (.tail _ (.head _)) rfl recV_free recV_len) .nil)) trivial memNil .nil (fun _ _ => List.not_mem_nil) rfl trivial memNil rfl rfl rfl rfl rfl rfl ?_
     refine s_pickT rfl rfl (by conv => lhs; whnf) rfl rfl rfl ?_
     refine m1 ?_
     refine s_split (t := 61) rfl (fun b24 => ?_) (fun b24 => ?_)
     ·replace h := cond_t h b24
      refine m1 ?_
      refine m1 ?_
      refine bnd1_elim h fun x25 q26 h => ?_
      refine s_callN (kb := [(12, 100)]) (ns := []) (v := .sc (.bool x25)) rfl rfl cl38 (wi_SameData x4 x5 x25 q26) rfl (.cons (lendL rfl (.head _) rfl recV_free recV_len) (.cons (.free rfl) .nil)) trivial memNil .nil (fun _ _ => List.not_mem_nil) rfl trivial memNil rfl rfl rfl rfl rfl rfl ?_
      refine s_of (st_not rfl rfl) rfl rfl rfl rfl ?_
      refine m1 ?_
      refine s_split (t := 66) rfl (fun b27 => ?_) (fun b27 => ?_)
      ·replace h := cond_t h b27
       refine s_skip rfl rfl rfl ?_
       refine s_skip rfl rfl rfl ?_
       refine s_skip rfl rfl rfl ?_
       refine s_skip rfl rfl rfl ?_
       refine s_skip rfl rfl rfl ?_
       refine s_skip rfl rfl rfl ?_
       refine s_skip rfl rfl rfl ?_
       refine s_pickT rfl rfl (v := .sc (.bool true)) rfl rfl rfl rfl ?_
       refine s_pickT rfl rfl (by conv => lhs; whnf) rfl rfl rfl ?_
       refine m2 ?_
       refine rt_nil ?_
       refine tri_ret ?_
       have e0 := (some1 h); subst e0
       exact endY [] [] (rvC (resTmp rfl) rvN) trivial trivial rfl rfl rfl rfl (.free rfl)
      ·replace h := cond_f h b27
       refine m1 ?_
       refine s_len (m := x4.length) rfl sl24 rfl rfl rfl rfl ?_
       refine s_of (st_eqI rfl rfl rfl) rfl rfl rfl rfl ?_
       refine m1 ?_
       refine s_lenL rfl sl24 rfl rfl rfl rfl ?_
       refine s_of (st_eqI rfl rfl rfl) rfl rfl rfl rfl ?_
       refine s_of (st_eqB isb4 rfl rfl rfl) rfl rfl rfl rfl ?_
       refine s_pickF rfl rfl (by conv => lhs; whnf) rfl rfl rfl ?_
       refine s_pickT rfl rfl (by conv => lhs; whnf) rfl rfl rfl ?_
       refine m2 ?_
       refine rt_nil ?_
       refine tri_ret ?_
       have e0 := (some1 h); subst e0
       exact endY [] [] (rvC (resTmp rfl) rvN) trivial trivial rfl rfl rfl rfl (.free rfl)
     ·replace h := cond_f h b24
      refine s_skip rfl rfl rfl ?_
      refine s_skip rfl rfl rfl ?_
      refine s_skip rfl rfl rfl ?_
      refine s_skip rfl rfl rfl ?_
      refine s_skip rfl rfl rfl ?_
      refine s_skip rfl rfl rfl ?_
      refine s_skip rfl rfl rfl ?_
      refine s_skip rfl rfl rfl ?_
      refine s_skip rfl rfl rfl ?_
      refine s_skip rfl rfl rfl ?_
      refine s_skip rfl rfl rfl ?_
      refine s_skip rfl rfl rfl ?_
      refine s_skip rfl rfl rfl ?_
      refine s_pickF rfl rfl (v := .sc (.bool false)) rfl rfl rfl rfl ?_
      refine m2 ?_
      refine rt_nil ?_
      refine tri_ret ?_
      have e0 := (some1 h); subst e0
      exact endY [] [] (rvC (resTmp rfl) rvN) trivial trivial rfl rfl rfl rfl (.free rfl)
    ·replace h := cond_f h b17
     refine s_skip rfl rfl rfl ?_
     refine s_skip rfl rfl rfl ?_
     refine s_skip rfl rfl rfl ?_
     refine s_skip rfl rfl rfl ?_
     refine s_skip rfl rfl rfl ?_
     refine s_pickF rfl rfl (v := .sc (.bool false)) rfl rfl rfl rfl ?_
     refine m1 ?_
     refine s_skip rfl rfl rfl ?_
     refine s_skip rfl rfl rfl ?_
     refine s_skip rfl rfl rfl ?_
     refine s_skip rfl rfl rfl ?_
     refine s_skip rfl rfl rfl ?_
     refine s_skip rfl rfl rfl ?_
     refine s_skip rfl rfl rfl ?_
     refine s_skip rfl rfl rfl ?_
     refine s_skip rfl rfl rfl ?_
     refine s_skip rfl rfl rfl ?_
     refine s_skip rfl rfl rfl ?_
     refine s_skip rfl rfl rfl ?_
     refine s_skip rfl rfl rfl ?_
     refine s_pickF rfl rfl (v := .sc (.bool false)) rfl rfl rfl rfl ?_
     refine m2 ?_
     refine rt_nil ?_
     refine tri_ret ?_
     have e0 := (some1 h); subst e0
     exact endY [] [] (rvC (resTmp rfl) rvN) trivial trivial rfl rfl rfl rfl (.free rfl)

end Go.Abs.M
