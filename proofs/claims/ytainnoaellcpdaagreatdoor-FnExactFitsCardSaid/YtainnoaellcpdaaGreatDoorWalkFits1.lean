/- Walks of the functions that the law of Fits reaches: what each of them computes, where its pure function does not fail. -/
import Derived.Test.YtainnoaellcpdaaGreatDoorWalkFits0
set_option linter.unusedSimpArgs false
set_option linter.unusedVariables false
namespace Go.Abs.M
open Go Go.Abs Go.Proofs
theorem cl100 : callable Tryz.prog 100 = true := by kernel_rfl
theorem cl101 : callable Tryz.prog 101 = true := by kernel_rfl
theorem cl112 : callable Tryz.prog 112 = true := by kernel_rfl
theorem cl113 : callable Tryz.prog 113 = true := by kernel_rfl
theorem cl114 : callable Tryz.prog 114 = true := by kernel_rfl
theorem cl115 : callable Tryz.prog 115 = true := by kernel_rfl
theorem cl116 : callable Tryz.prog 116 = true := by kernel_rfl
theorem cl12 : callable Tryz.prog 12 = true := by kernel_rfl
theorem cl122 : callable Tryz.prog 122 = true := by kernel_rfl
theorem cl123 : callable Tryz.prog 123 = true := by kernel_rfl
theorem cl129 : callable Tryz.prog 129 = true := by kernel_rfl
theorem cl131 : callable Tryz.prog 131 = true := by kernel_rfl
theorem cl132 : callable Tryz.prog 132 = true := by kernel_rfl
theorem cl133 : callable Tryz.prog 133 = true := by kernel_rfl
theorem cl134 : callable Tryz.prog 134 = true := by kernel_rfl
theorem cl135 : callable Tryz.prog 135 = true := by kernel_rfl
theorem cl136 : callable Tryz.prog 136 = true := by kernel_rfl
theorem cl137 : callable Tryz.prog 137 = true := by kernel_rfl
theorem cl140 : callable Tryz.prog 140 = true := by kernel_rfl
theorem cl141 : callable Tryz.prog 141 = true := by kernel_rfl
theorem cl144 : callable Tryz.prog 144 = true := by kernel_rfl
theorem cl145 : callable Tryz.prog 145 = true := by kernel_rfl
theorem cl152 : callable Tryz.prog 152 = true := by kernel_rfl
theorem cl156 : callable Tryz.prog 156 = true := by kernel_rfl
theorem cl16 : callable Tryz.prog 16 = true := by kernel_rfl
theorem cl29 : callable Tryz.prog 29 = true := by kernel_rfl
theorem cl39 : callable Tryz.prog 39 = true := by kernel_rfl
theorem cl42 : callable Tryz.prog 42 = true := by kernel_rfl
theorem cl44 : callable Tryz.prog 44 = true := by kernel_rfl
theorem cl45 : callable Tryz.prog 45 = true := by kernel_rfl
theorem cl46 : callable Tryz.prog 46 = true := by kernel_rfl
theorem cl55 : callable Tryz.prog 55 = true := by kernel_rfl
theorem cl61 : callable Tryz.prog 61 = true := by kernel_rfl
theorem cl73 : callable Tryz.prog 73 = true := by kernel_rfl
theorem cl74 : callable Tryz.prog 74 = true := by kernel_rfl
theorem cl75 : callable Tryz.prog 75 = true := by kernel_rfl
theorem cl76 : callable Tryz.prog 76 = true := by kernel_rfl
theorem cl89 : callable Tryz.prog 89 = true := by kernel_rfl
theorem cl95 : callable Tryz.prog 95 = true := by kernel_rfl
theorem cl99 : callable Tryz.prog 99 = true := by kernel_rfl
theorem sl58 : slTy Tryz.prog 58 = some (26, 1, 24) := by kernel_rfl
theorem zc26 : zeroC Tryz.prog 26 = some [.slice none 0 0] := by kernel_rfl
/- spec.PutPlain -/
def inv_s_PutPlain_1 (x5 : List ByteArray) (v1_0 : List Int) (v1_1 : Nat) : St := mkT 32 [(5, .ref (2005, 0) 0 v1_0.length), (6, .ref (16, 0) 0 x5.length), (7, .sc (.int .i64 (v1_1 : Int)))] [((2005, 0), some ⟨5, 1, List.map byteV v1_0, false, true⟩), ((16, 0), some ⟨9, 1, List.map strV x5, false, true⟩)]
def inv_s_PutPlain_0  (j0_0 : List Int) : St := mkT 32 [(5, .ref (2005, 0) 0 j0_0.length)] [((2005, 0), some ⟨5, 1, List.map byteV j0_0, false, true⟩)]
set_option maxRecDepth 4000 in
set_option maxHeartbeats 800000 in
theorem ws_PutPlain (p0 : List Int) (p1 : ByteArray) (r0 : List Int) (h : s_PutPlain p0 p1 = some r0) : Runs Tryz.prog 140 [.lst 1 (List.map byteV p0), .sc (.string p1)] [] (.own 5 1 (List.map byteV r0)) [] := by
 unfold s_PutPlain at h
 refine runsR [.tmp 4] Tryz.func140 rfl rfl rfl rfl ?_
 rw [Tryz.ntmps140]
 refine tri_sr ?_
 refine s_mv (.inr rfl) (v := .nils) rfl rfl rfl rfl ?_
 refine rt_nil ?_
 refine tri_sr ?_
 refine s_buildSlice (rows' := List.map byteV ([] : List Int)) rfl rfl rfl sl22 zc5 rfl rfl rfl rfl rfl rfl rfl rfl rfl ?_
 refine m1 ?_
 refine grd_elim h fun g1 h => ?_
 refine s_appL rfl rfl rfl sl22 zc5 rfl rfl rfl rfl rfl rfl src_lst g1 rfl rfl ?_
 refine m2 ?_
 refine rt_nil ?_
 refine tri_seq ?_
 refine tri_sr ?_
 refine m1 ?_
 refine bnd1_elim h fun x2 q3 h => ?_
 refine s_callN (kb := []) (ns := []) (v := .sc (.bool x2)) rfl rfl cl84 (ws_NameOk p1 x2 q3) rfl (.cons (.free rfl) .nil) trivial memNil .nil memNil rfl trivial memNil rfl rfl rfl rfl rfl rfl ?_
 refine s_of (st_not rfl rfl) rfl rfl rfl rfl ?_
 refine rt_nil ?_
 refine tri_cond rfl (fun c4 => ?_) (fun c4 => ?_)
 ·replace h := cond_t h c4
  refine tri_sr ?_
  refine m1 ?_
  refine m2 ?_
  refine rt_nil ?_
  refine tri_ret ?_
  have e0 := (some1 h); subst e0
  exact endY (v' := .ref (2000, 0) 0 ((([] : List Int) ++ p0).length)) [((2000, 0), ⟨5, 1, List.map byteV (([] : List Int) ++ p0), false, true⟩, some (10, 0))] [] (rvC (resTmp rfl) rvN) ⟨⟨rfl, _, rfl, rfl, rfl, rfl, id, rowsCv_eq rfl (allFree_map byteV_free), rowsZ_map byteV_len⟩, trivial⟩ trivial rfl rfl (by kernel_rfl) (by simp only [V.mat, V.mat1, V.mat0, matL, matT, List.length_map] <;> rfl) (.ref rfl)
 ·replace h := cond_f h c4
  refine tri_skip ?_
  refine tri_sr ?_
  refine m1 ?_
  refine bnd1_elim h fun x5 q6 h => ?_
  refine s_callN (kb := []) (ns := []) (v := .ref (16, 0) 0 x5.length) rfl rfl cl86 (ws_Labels p1 x5 q6) rfl (.cons (.free rfl) .nil) trivial memNil .nil memNil rfl ⟨(allSc_map strV_sc), trivial⟩ memNil rfl (by simp only [V.mat, V.mat1, V.mat0, matL, matT, List.length_map] <;> rfl) rfl rfl rfl rfl ?_
  refine m2 ?_
  refine rt_nil ?_
  refine tri_cutI (ι := { p : (List Int) // s_PutPlain_j0 p = some r0 }) (fun p => inv_s_PutPlain_0 p.1) ?_ ?_
  ·skip
   refine tri_sr ?_
   refine s_mv (.inr rfl) (v := .sc (.int .i64 0)) rfl rfl rfl rfl ?_
   refine rt_nil ?_
   refine tri_block ?_
   refine tri_ownM (16, 0) rfl (fun hl1 => ?_)
   refine tri_loop (ι := { p : (List ByteArray) × (List Int) × Nat // x5.drop p.2.2 = p.1 ∧ s_PutPlain_l1 p.1 p.2.1 p.2.2 = some r0 }) (fun p => inv_s_PutPlain_1 x5 p.1.2.1 p.1.2.2) (fun p => p.1.1.length) ⟨(x5, ([] : List Int) ++ p0, 0), rfl, h⟩ ?_ ?_
   ·skip
    refine entX [((2005, 0), ⟨5, 1, List.map byteV (([] : List Int) ++ p0), false, true⟩, some (10, 0)), ((16, 0), ⟨9, 1, List.map strV x5, false, true⟩, some (16, 0))] [] ⟨⟨rfl, _, rfl, rfl, rfl, rfl, id, rowsCv_eq rfl (allFree_map byteV_free), rowsZ_map byteV_len⟩, ⟨rfl, _, rfl, rfl, rfl, rfl, id, rowsCv_eq rfl (allFree_map strV_free), rowsZ_map strV_len⟩, trivial⟩ trivial rfl rfl ?_
    exact ⟨(.ref rfl), (.ref rfl), (.free rfl), trivial⟩
   ·rintro ⟨⟨lrs1, v1_0, v1_1⟩, hd1, h⟩
    replace hd1 : x5.drop v1_1 = lrs1 := hd1
    replace h : s_PutPlain_l1 lrs1 v1_0 v1_1 = some r0 := h
    show Tri _ _ _ (inv_s_PutPlain_1 x5 v1_0 v1_1)
    refine tri_seq ?_
    refine tri_sr ?_
    refine m1 ?_
    refine m1 ?_
    refine s_len (m := x5.length) rfl sl91 rfl rfl rfl rfl ?_
    refine s_of (st_lss rfl rfl rfl) rfl rfl rfl rfl ?_
    refine rt_nil ?_
    refine tri_cond rfl (fun c7 => ?_) (fun c7 => ?_)
    ·refine drop_elim hd1 c7 fun e1 rs1 he hx1 hn1 => ?_
     subst he
     rw [s_PutPlain_l1] at h
     refine tri_skip ?_
     refine tri_seq ?_
     refine tri_block ?_
     refine tri_region ?_
     refine m1 ?_
     refine m1 ?_
     refine m1 ?_
     refine s_index0 (i := v1_1) rfl rfl rfl rfl sl91 rfl (get_lt hx1) rfl rfl rfl ?_
     refine s_load rfl rfl rfl (rowG hx1) ty9 rfl (.inr rfl) (by conv => lhs; whnf) rfl rfl rfl ?_
     refine bnd1_elim h fun x8 q9 h => ?_
     refine s_callN (kb := [(2005, 0)]) (ns := []) (v := .ref (28, 0) 0 x8.length) rfl rfl cl88 (ws_PutLabel v1_0 e1 x8 q9) rfl (.cons (lendL rfl (.head _) rfl byteV_free byteV_len) (.cons (.free rfl) .nil)) trivial memNil .nil (fun _ _ => List.not_mem_nil) rfl ⟨(allSc_map byteV_sc), trivial⟩ memNil rfl (by simp only [V.mat, V.mat1, V.mat0, matL, matT, List.length_map] <;> rfl) rfl rfl rfl rfl ?_
     refine m2 ?_
     refine rt_nil ?_
     refine tri_region ?_
     refine m1 ?_
     refine s_inc (a := v1_1) (b := 1) rfl rfl rfl rfl (by have := get_lt hx1; have := hl1; omega) rfl rfl rfl ?_
     refine m2 ?_
     refine rt_nil ?_
     refine Exists.intro ⟨(rs1, x8, (v1_1 + 1)), hn1, h⟩ (And.intro (Nat.lt_succ_self _) ?_)
     refine entX [((2005, 0), ⟨5, 1, List.map byteV x8, false, true⟩, some (28, 0)), ((16, 0), ⟨9, 1, List.map strV x5, false, true⟩, some (16, 0))] [] ⟨⟨rfl, _, rfl, rfl, rfl, rfl, id, rowsCv_eq rfl (allFree_map byteV_free), rowsZ_map byteV_len⟩, ⟨rfl, _, rfl, rfl, rfl, rfl, id, rowsCv_eq rfl (allFree_map strV_free), rowsZ_map strV_len⟩, trivial⟩ trivial rfl rfl ?_
     exact ⟨(.ref rfl), (.ref rfl), (.free rfl), trivial⟩
    ·have he := drop_f hd1 c7; subst he
     rw [s_PutPlain_l1] at h
     refine tri_exit ?_
     refine Exists.intro ⟨v1_0, h⟩ ?_
     refine entX [((2005, 0), ⟨5, 1, List.map byteV v1_0, false, true⟩, some (2005, 0))] [] ⟨⟨rfl, _, rfl, rfl, rfl, rfl, id, rowsCv_eq rfl (allFree_map byteV_free), rowsZ_map byteV_len⟩, trivial⟩ trivial rfl rfl ?_
     exact ⟨(.ref rfl), trivial⟩
  ·rintro ⟨j0_0, h⟩
   replace h : s_PutPlain_j0 j0_0 = some r0 := h
   unfold s_PutPlain_j0 at h
   show Tri _ _ _ (inv_s_PutPlain_0 j0_0)
   refine tri_sr ?_
   refine m1 ?_
   refine s_buildSlice (rows' := List.map byteV [0]) rfl rfl rfl sl22 zc5 rfl rfl rfl rfl rfl rfl rfl rfl rfl ?_
   refine grd_elim h fun g7 h => ?_
   refine s_appL rfl rfl rfl sl22 zc5 rfl rfl rfl rfl rfl rfl (src_refL rfl rfl) g7 rfl rfl ?_
   refine m2 ?_
   refine rt_nil ?_
   refine tri_ret ?_
   have e0 := (some1 h); subst e0
   exact endY (v' := .ref (2000, 0) 0 ((j0_0 ++ [0]).length)) [((2000, 0), ⟨5, 1, List.map byteV (j0_0 ++ [0]), false, true⟩, some (31, 0))] [] (rvC (resTmp rfl) rvN) ⟨⟨rfl, _, rfl, rfl, rfl, rfl, id, rowsCv_eq rfl (allFree_map byteV_free), rowsZ_map byteV_len⟩, trivial⟩ trivial rfl rfl (by kernel_rfl) (by simp only [V.mat, V.mat1, V.mat0, matL, matT, List.length_map] <;> rfl) (by show Cv _ _ _ _ (.ref (31, 0) 0 ((j0_0 ++ [0]).length)) (.ref (2000, 0) 0 ((j0_0 ++ [0]).length)); exact .ref rfl)

/- spec.PutData -/

set_option maxRecDepth 4000 in
set_option maxHeartbeats 800000 in
theorem ws_PutData (p0 : Rec) (r0 : List Int) (h : s_PutData p0 = some r0) : Runs Tryz.prog 123 [.agg (recV p0)] [] (.own 5 1 (List.map byteV r0)) [] := by
 unfold s_PutData at h
 refine runsR [.tmp 2] Tryz.func123 rfl rfl rfl rfl ?_
 rw [Tryz.ntmps123]
 refine tri_sr ?_
 refine s_box rfl rfl rfl rfl rfl rfl rfl ?_
 refine s_mv (.inr rfl) (v := .nils) rfl rfl rfl rfl ?_
 refine rt_nil ?_
 refine tri_seq ?_
 refine tri_sr ?_
 refine s_loadR rfl rfl rfl rfl ty87 rfl rfl rfl ?_
 refine bnd1_elim h fun x1 q2 h => ?_
 refine s_callN (kb := []) (ns := []) (v := .sc (.bool x1)) rfl rfl cl119 (ws_RecordOk p0 x1 q2) rfl (.cons (relAgg rfl) .nil) trivial memNil .nil memNil rfl trivial memNil rfl rfl rfl rfl rfl rfl ?_
 refine s_of (st_not rfl rfl) rfl rfl rfl rfl ?_
 refine rt_nil ?_
 refine tri_cond rfl (fun c3 => ?_) (fun c3 => ?_)
 ·replace h := cond_t h c3
  refine tri_sr ?_
  refine s_buildSlice (rows' := List.map byteV ([] : List Int)) rfl rfl rfl sl22 zc5 rfl rfl rfl rfl rfl rfl rfl rfl rfl ?_
  refine m2 ?_
  refine rt_nil ?_
  refine tri_ret ?_
  have e0 := (some1 h); subst e0
  exact endY (v' := .ref (2000, 0) 0 (([] : List Int).length)) [((2000, 0), ⟨5, 1, List.map byteV ([] : List Int), false, true⟩, some (6, 0))] [] (rvC (resTmp rfl) rvN) ⟨⟨rfl, _, rfl, rfl, rfl, rfl, id, rowsCv_eq rfl (allFree_map byteV_free), rowsZ_map byteV_len⟩, trivial⟩ trivial rfl rfl (by kernel_rfl) (by simp only [V.mat, V.mat1, V.mat0, matL, matT, List.length_map] <;> rfl) (.ref rfl)
 ·replace h := cond_f h c3
  refine tri_skip ?_
  refine tri_seq ?_
  refine tri_sr ?_
  refine s_fieldAddr rfl rfl fd87_1 rfl rfl rfl rfl ?_
  refine s_load rfl rfl rfl rfl ty3 rfl (.inr rfl) (by conv => lhs; whnf) rfl rfl rfl ?_
  refine rt_nil ?_
  refine tri_block ?_
  refine tri_sr ?_
  refine s_of (st_eqI rfl rfl rfl) rfl rfl rfl rfl ?_
  refine m2 ?_
  refine rt_nil ?_
  refine tri_cond rfl (fun c4 => ?_) (fun c4 => ?_)
  ·replace h := cond_t h c4
   refine tri_sr ?_
   refine s_buildSlice (rows' := List.map byteV ([] : List Int)) rfl rfl rfl sl22 zc5 rfl rfl rfl rfl rfl rfl rfl rfl rfl ?_
   refine s_fieldAddr rfl rfl fd87_3 rfl rfl rfl rfl ?_
   refine s_load rfl rfl rfl rfl ty3 rfl (.inr rfl) (by conv => lhs; whnf) rfl rfl rfl ?_
   refine bnd1_elim h fun x5 q6 h => ?_
   refine s_callN (kb := [(11, 0)]) (ns := []) (v := .ref (14, 0) 0 x5.length) rfl rfl cl122 (ws_Put4 ([] : List Int) p0.n x5 q6) rfl (.cons (lendL rfl (.head _) rfl byteV_free byteV_len) (.cons (.free rfl) .nil)) trivial memNil .nil (fun _ _ => List.not_mem_nil) rfl ⟨(allSc_map byteV_sc), trivial⟩ memNil rfl (by simp only [V.mat, V.mat1, V.mat0, matL, matT, List.length_map] <;> rfl) rfl rfl rfl rfl ?_
   refine m2 ?_
   refine rt_nil ?_
   refine tri_ret ?_
   have e0 := (some1 h); subst e0
   exact endY (v' := .ref (2000, 0) 0 x5.length) [((2000, 0), ⟨5, 1, List.map byteV x5, false, true⟩, some (14, 0))] [] (rvC (resTmp rfl) rvN) ⟨⟨rfl, _, rfl, rfl, rfl, rfl, id, rowsCv_eq rfl (allFree_map byteV_free), rowsZ_map byteV_len⟩, trivial⟩ trivial rfl rfl (by kernel_rfl) (by simp only [V.mat, V.mat1, V.mat0, matL, matT, List.length_map] <;> rfl) (.ref rfl)
  ·replace h := cond_f h c4
   refine tri_sr ?_
   refine s_of (st_eqI rfl rfl rfl) rfl rfl rfl rfl ?_
   refine m2 ?_
   refine rt_nil ?_
   refine tri_cond rfl (fun c7 => ?_) (fun c7 => ?_)
   ·replace h := cond_t h c7
    refine tri_seq ?_
    refine tri_draw mixed ?_
    refine s_buildSlice (rows' := List.map byteV ([] : List Int)) rfl rfl rfl sl22 zc5 rfl rfl rfl rfl rfl rfl rfl rfl rfl ?_
    refine s_fieldAddr rfl rfl fd87_4 rfl rfl rfl rfl ?_
    refine s_load rfl rfl rfl rfl ty9 rfl (.inr rfl) (by conv => lhs; whnf) rfl rfl rfl ?_
    refine bnd1_elim h fun x8 q9 h => ?_
    refine s_callN (kb := [(17, 0)]) (ns := []) (v := .ref (20, 0) 0 x8.length) rfl rfl cl140 (ws_PutPlain ([] : List Int) p0.host x8 q9) rfl (.cons (lendL rfl (.head _) rfl byteV_free byteV_len) (.cons (.free rfl) .nil)) trivial memNil .nil (fun _ _ => List.not_mem_nil) rfl ⟨(allSc_map byteV_sc), trivial⟩ memNil rfl (by simp only [V.mat, V.mat1, V.mat0, matL, matT, List.length_map] <;> rfl) rfl rfl rfl rfl ?_
    refine s_fieldAddr rfl rfl fd87_3 rfl rfl rfl rfl ?_
    refine s_load rfl rfl rfl rfl ty3 rfl (.inr rfl) (by conv => lhs; whnf) rfl rfl rfl ?_
    refine bnd1_elim h fun x10 q11 h => ?_
    refine s_callN (kb := [(20, 0)]) (ns := []) (v := .ref (23, 0) 0 x10.length) rfl rfl cl122 (ws_Put4 x8 p0.n x10 q11) rfl (.cons (lendL rfl (.head _) rfl byteV_free byteV_len) (.cons (.free rfl) .nil)) trivial memNil .nil (fun _ _ => List.not_mem_nil) rfl ⟨(allSc_map byteV_sc), trivial⟩ memNil rfl (by simp only [V.mat, V.mat1, V.mat0, matL, matT, List.length_map] <;> rfl) rfl rfl rfl rfl ?_
    refine m2 ?_
    refine rt_nil ⟨by kernel_rfl, ?_⟩
    refine tri_ret ?_
    have e0 := (some1 h); subst e0
    exact endY (v' := .ref (2000, 0) 0 x10.length) [((2000, 0), ⟨5, 1, List.map byteV x10, false, true⟩, some (23, 0))] [] (rvC (resTmp rfl) rvN) ⟨⟨rfl, _, rfl, rfl, rfl, rfl, id, rowsCv_eq rfl (allFree_map byteV_free), rowsZ_map byteV_len⟩, trivial⟩ trivial rfl rfl (by kernel_rfl) (by simp only [V.mat, V.mat1, V.mat0, matL, matT, List.length_map] <;> rfl) (.ref rfl)
   ·replace h := cond_f h c7
    refine tri_sr ?_
    refine s_of (st_eqI rfl rfl rfl) rfl rfl rfl rfl ?_
    refine m2 ?_
    refine rt_nil ?_
    refine tri_cond rfl (fun c12 => ?_) (fun c12 => ?_)
    ·replace h := cond_t h c12
     refine tri_sr ?_
     refine s_fieldAddr rfl rfl fd87_5 rfl rfl rfl rfl ?_
     refine s_load rfl rfl rfl rfl ty9 rfl (.inr rfl) (by conv => lhs; whnf) rfl rfl rfl ?_
     refine s_of (st_lenS rfl rfl iss9) rfl rfl rfl rfl ?_
     refine s_of (st_conv ik3 ik5 rfl rfl) rfl rfl rfl rfl ?_
     refine s_buildSlice (rows' := List.map byteV [IntKind.u8.wrap (p0.text.size : Int)]) rfl rfl rfl sl22 zc5 rfl rfl rfl rfl rfl rfl rfl rfl rfl ?_
     refine s_fieldAddr rfl rfl fd87_5 rfl rfl rfl rfl ?_
     refine s_load rfl rfl rfl rfl ty9 rfl (.inr rfl) (by conv => lhs; whnf) rfl rfl rfl ?_
     refine grd_elim h fun g13 h => ?_
     refine s_appS rfl rfl rfl sl22 zc5 iss9 rfl rfl rfl rfl rfl rfl g13 rfl rfl ?_
     refine m2 ?_
     refine rt_nil ?_
     refine tri_ret ?_
     have e0 := (some1 h); subst e0
     exact endY (v' := .ref (2000, 0) 0 (([IntKind.u8.wrap (p0.text.size : Int)] ++ (bytesOf p0.text)).length)) [((2000, 0), ⟨5, 1, List.map byteV ([IntKind.u8.wrap (p0.text.size : Int)] ++ (bytesOf p0.text)), false, true⟩, some (33, 0))] [] (rvC (resTmp rfl) rvN) ⟨⟨rfl, _, rfl, rfl, rfl, rfl, id, rowsCv_eq rfl (allFree_map byteV_free), rowsZ_map byteV_len⟩, trivial⟩ trivial rfl rfl (by kernel_rfl) (by simp only [V.mat, V.mat1, V.mat0, matL, matT, List.length_map] <;> rfl) (.ref rfl)
    ·replace h := cond_f h c12
     refine tri_skip ?_
     refine tri_sr ?_
     refine s_buildSlice (rows' := List.map byteV ([] : List Int)) rfl rfl rfl sl22 zc5 rfl rfl rfl rfl rfl rfl rfl rfl rfl ?_
     refine s_fieldAddr rfl rfl fd87_4 rfl rfl rfl rfl ?_
     refine s_load rfl rfl rfl rfl ty9 rfl (.inr rfl) (by conv => lhs; whnf) rfl rfl rfl ?_
     refine bnd1_elim h fun x14 q15 h => ?_
     refine s_callN (kb := [(34, 0)]) (ns := []) (v := .ref (37, 0) 0 x14.length) rfl rfl cl140 (ws_PutPlain ([] : List Int) p0.host x14 q15) rfl (.cons (lendL rfl (.head _) rfl byteV_free byteV_len) (.cons (.free rfl) .nil)) trivial memNil .nil (fun _ _ => List.not_mem_nil) rfl ⟨(allSc_map byteV_sc), trivial⟩ memNil rfl (by simp only [V.mat, V.mat1, V.mat0, matL, matT, List.length_map] <;> rfl) rfl rfl rfl rfl ?_
     refine m2 ?_
     refine rt_nil ?_
     refine tri_ret ?_
     have e0 := (some1 h); subst e0
     exact endY (v' := .ref (2000, 0) 0 x14.length) [((2000, 0), ⟨5, 1, List.map byteV x14, false, true⟩, some (37, 0))] [] (rvC (resTmp rfl) rvN) ⟨⟨rfl, _, rfl, rfl, rfl, rfl, id, rowsCv_eq rfl (allFree_map byteV_free), rowsZ_map byteV_len⟩, trivial⟩ trivial rfl rfl (by kernel_rfl) (by simp only [V.mat, V.mat1, V.mat0, matL, matT, List.length_map] <;> rfl) (.ref rfl)

/- spec.PutRecord -/

set_option maxRecDepth 4000 in
set_option maxHeartbeats 800000 in
theorem ws_PutRecord (p0 : List Int) (p1 : Rec) (r0 : List Int) (h : s_PutRecord p0 p1 = some r0) : Runs Tryz.prog 89 [.lst 1 (List.map byteV p0), .agg (recV p1)] [] (.own 5 1 (List.map byteV r0)) [] := by
 unfold s_PutRecord at h
 refine runsR [.tmp 4] Tryz.func89 rfl rfl rfl rfl ?_
 rw [Tryz.ntmps89]
 refine tri_sr ?_
 refine s_box rfl rfl rfl rfl rfl rfl rfl ?_
 refine s_mv (.inr rfl) (v := .nils) rfl rfl rfl rfl ?_
 refine rt_nil ?_
 refine tri_seq ?_
 refine tri_sr ?_
 refine s_loadR rfl rfl rfl rfl ty87 rfl rfl rfl ?_
 refine bnd1_elim h fun x1 q2 h => ?_
 refine s_callN (kb := []) (ns := []) (v := .sc (.bool x1)) rfl rfl cl119 (ws_RecordOk p1 x1 q2) rfl (.cons (relAgg rfl) .nil) trivial memNil .nil memNil rfl trivial memNil rfl rfl rfl rfl rfl rfl ?_
 refine s_of (st_not rfl rfl) rfl rfl rfl rfl ?_
 refine rt_nil ?_
 refine tri_cond rfl (fun c3 => ?_) (fun c3 => ?_)
 ·replace h := cond_t h c3
  refine tri_sr ?_
  refine s_buildSlice (rows' := List.map byteV ([] : List Int)) rfl rfl rfl sl22 zc5 rfl rfl rfl rfl rfl rfl rfl rfl rfl ?_
  refine m1 ?_
  refine grd_elim h fun g4 h => ?_
  refine s_appL rfl rfl rfl sl22 zc5 rfl rfl rfl rfl rfl rfl src_lst g4 rfl rfl ?_
  refine m2 ?_
  refine rt_nil ?_
  refine tri_ret ?_
  have e0 := (some1 h); subst e0
  exact endY (v' := .ref (2000, 0) 0 ((([] : List Int) ++ p0).length)) [((2000, 0), ⟨5, 1, List.map byteV (([] : List Int) ++ p0), false, true⟩, some (12, 0))] [] (rvC (resTmp rfl) rvN) ⟨⟨rfl, _, rfl, rfl, rfl, rfl, id, rowsCv_eq rfl (allFree_map byteV_free), rowsZ_map byteV_len⟩, trivial⟩ trivial rfl rfl (by kernel_rfl) (by simp only [V.mat, V.mat1, V.mat0, matL, matT, List.length_map] <;> rfl) (.ref rfl)
 ·replace h := cond_f h c3
  refine tri_skip ?_
  refine tri_seq ?_
  refine tri_draw mixed ?_
  refine m1 ?_
  refine s_fieldAddr rfl rfl fd87_0 rfl rfl rfl rfl ?_
  refine s_load rfl rfl rfl rfl ty9 rfl (.inr rfl) (by conv => lhs; whnf) rfl rfl rfl ?_
  refine bnd1_elim h fun x5 q6 h => ?_
  refine s_callN (kb := []) (ns := []) (v := .ref (16, 0) 0 x5.length) rfl rfl cl44 (ws_PutName p0 p1.name x5 q6) rfl (.cons (.free rfl) (.cons (.free rfl) .nil)) trivial memNil .nil memNil rfl ⟨(allSc_map byteV_sc), trivial⟩ memNil rfl (by simp only [V.mat, V.mat1, V.mat0, matL, matT, List.length_map] <;> rfl) rfl rfl rfl rfl ?_
  refine s_fieldAddr rfl rfl fd87_1 rfl rfl rfl rfl ?_
  refine s_load rfl rfl rfl rfl ty3 rfl (.inr rfl) (by conv => lhs; whnf) rfl rfl rfl ?_
  refine bnd1_elim h fun x7 q8 h => ?_
  refine s_callN (kb := [(16, 0)]) (ns := []) (v := .ref (19, 0) 0 x7.length) rfl rfl cl43 (ws_Put2 x5 p1.ty x7 q8) rfl (.cons (lendL rfl (.head _) rfl byteV_free byteV_len) (.cons (.free rfl) .nil)) trivial memNil .nil (fun _ _ => List.not_mem_nil) rfl ⟨(allSc_map byteV_sc), trivial⟩ memNil rfl (by simp only [V.mat, V.mat1, V.mat0, matL, matT, List.length_map] <;> rfl) rfl rfl rfl rfl ?_
  refine bnd1_elim h fun x9 q10 h => ?_
  refine s_callN (kb := [(19, 0)]) (ns := []) (v := .ref (20, 0) 0 x9.length) rfl rfl cl43 (ws_Put2 x7 1 x9 q10) rfl (.cons (lendL rfl (.head _) rfl byteV_free byteV_len) (.cons (.free rfl) .nil)) trivial memNil .nil (fun _ _ => List.not_mem_nil) rfl ⟨(allSc_map byteV_sc), trivial⟩ memNil rfl (by simp only [V.mat, V.mat1, V.mat0, matL, matT, List.length_map] <;> rfl) rfl rfl rfl rfl ?_
  refine s_fieldAddr rfl rfl fd87_2 rfl rfl rfl rfl ?_
  refine s_load rfl rfl rfl rfl ty3 rfl (.inr rfl) (by conv => lhs; whnf) rfl rfl rfl ?_
  refine bnd1_elim h fun x11 q12 h => ?_
  refine s_callN (kb := [(20, 0)]) (ns := []) (v := .ref (23, 0) 0 x11.length) rfl rfl cl122 (ws_Put4 x9 p1.ttl x11 q12) rfl (.cons (lendL rfl (.head _) rfl byteV_free byteV_len) (.cons (.free rfl) .nil)) trivial memNil .nil (fun _ _ => List.not_mem_nil) rfl ⟨(allSc_map byteV_sc), trivial⟩ memNil rfl (by simp only [V.mat, V.mat1, V.mat0, matL, matT, List.length_map] <;> rfl) rfl rfl rfl rfl ?_
  refine m2 ?_
  refine rt_nil ⟨by kernel_rfl, ?_⟩
  refine tri_sr ?_
  refine s_loadR rfl rfl rfl rfl ty87 rfl rfl rfl ?_
  refine bnd1_elim h fun x13 q14 h => ?_
  refine s_callN (kb := []) (ns := []) (v := .ref (25, 0) 0 x13.length) rfl rfl cl123 (ws_PutData p1 x13 q14) rfl (.cons (relAgg rfl) .nil) trivial memNil .nil memNil rfl ⟨(allSc_map byteV_sc), trivial⟩ memNil rfl (by simp only [V.mat, V.mat1, V.mat0, matL, matT, List.length_map] <;> rfl) rfl rfl rfl rfl ?_
  refine m2 ?_
  refine rt_nil ?_
  refine tri_sr ?_
  refine m1 ?_
  refine m1 ?_
  refine s_len (m := x13.length) rfl sl22 rfl rfl rfl rfl ?_
  refine bnd1_elim h fun x15 q16 h => ?_
  refine s_callN (kb := [(23, 0)]) (ns := []) (v := .ref (29, 0) 0 x15.length) rfl rfl cl43 (ws_Put2 x11 (x13.length : Int) x15 q16) rfl (.cons (lendL rfl (.head _) rfl byteV_free byteV_len) (.cons (.free rfl) .nil)) trivial memNil .nil (fun _ _ => List.not_mem_nil) rfl ⟨(allSc_map byteV_sc), trivial⟩ memNil rfl (by simp only [V.mat, V.mat1, V.mat0, matL, matT, List.length_map] <;> rfl) rfl rfl rfl rfl ?_
  refine m1 ?_
  refine grd_elim h fun g17 h => ?_
  refine s_appL rfl rfl rfl sl22 zc5 rfl rfl rfl rfl rfl rfl (src_refL rfl rfl) g17 rfl rfl ?_
  refine m2 ?_
  refine rt_nil ?_
  refine tri_ret ?_
  have e0 := (some1 h); subst e0
  exact endY (v' := .ref (2000, 0) 0 ((x15 ++ x13).length)) [((2000, 0), ⟨5, 1, List.map byteV (x15 ++ x13), false, true⟩, some (31, 0))] [] (rvC (resTmp rfl) rvN) ⟨⟨rfl, _, rfl, rfl, rfl, rfl, id, rowsCv_eq rfl (allFree_map byteV_free), rowsZ_map byteV_len⟩, trivial⟩ trivial rfl rfl (by kernel_rfl) (by simp only [V.mat, V.mat1, V.mat0, matL, matT, List.length_map] <;> rfl) (.ref rfl)

/- spec.PutRecords -/
def inv_s_PutRecords_0 (p1 : List Rec) (v0_0 : List Int) (v0_1 : Nat) : St := mkT 23 [(1, .lst 6 (List.map recV p1)), (5, .ref (2005, 0) 0 v0_0.length), (6, .sc (.int .i64 (v0_1 : Int)))] [((2005, 0), some ⟨5, 1, List.map byteV v0_0, false, true⟩)]
set_option maxRecDepth 4000 in
set_option maxHeartbeats 800000 in
theorem ws_PutRecords (p0 : List Int) (p1 : List Rec) (r0 : List Int) (h : s_PutRecords p0 p1 = some r0) : Runs Tryz.prog 45 [.lst 1 (List.map byteV p0), .lst 6 (List.map recV p1)] [] (.own 5 1 (List.map byteV r0)) [] := by
 unfold s_PutRecords at h
 refine runsR [.tmp 4] Tryz.func45 rfl rfl rfl rfl ?_
 rw [Tryz.ntmps45]
 refine tri_sr ?_
 refine s_mv (.inr rfl) (v := .nils) rfl rfl rfl rfl ?_
 refine rt_nil ?_
 refine tri_sr ?_
 refine s_buildSlice (rows' := List.map byteV ([] : List Int)) rfl rfl rfl sl22 zc5 rfl rfl rfl rfl rfl rfl rfl rfl rfl ?_
 refine m1 ?_
 refine grd_elim h fun g1 h => ?_
 refine s_appL rfl rfl rfl sl22 zc5 rfl rfl rfl rfl rfl rfl src_lst g1 rfl rfl ?_
 refine m2 ?_
 refine rt_nil ?_
 refine tri_seq ?_
 refine tri_sr ?_
 refine s_mv (.inr rfl) (v := .sc (.int .i64 0)) rfl rfl rfl rfl ?_
 refine rt_nil ?_
 refine tri_block ?_
 refine tri_lstM 1 rfl (fun hl0 => ?_)
 refine tri_loop (ι := { p : (List Rec) × (List Int) × Nat // p1.drop p.2.2 = p.1 ∧ s_PutRecords_l0 p.1 p.2.1 p.2.2 = some r0 }) (fun p => inv_s_PutRecords_0 p1 p.1.2.1 p.1.2.2) (fun p => p.1.1.length) ⟨(p1, ([] : List Int) ++ p0, 0), rfl, h⟩ ?_ ?_
 ·skip
  refine entX [((2005, 0), ⟨5, 1, List.map byteV (([] : List Int) ++ p0), false, true⟩, some (9, 0))] [] ⟨⟨rfl, _, rfl, rfl, rfl, rfl, id, rowsCv_eq rfl (allFree_map byteV_free), rowsZ_map byteV_len⟩, trivial⟩ trivial rfl rfl ?_
  exact ⟨(.free rfl), (.ref rfl), (.free rfl), trivial⟩
 ·rintro ⟨⟨lrs0, v0_0, v0_1⟩, hd0, h⟩
  replace hd0 : p1.drop v0_1 = lrs0 := hd0
  replace h : s_PutRecords_l0 lrs0 v0_0 v0_1 = some r0 := h
  show Tri _ _ _ (inv_s_PutRecords_0 p1 v0_0 v0_1)
  refine tri_seq ?_
  refine tri_sr ?_
  refine m1 ?_
  refine m1 ?_
  refine s_lenL rfl sl26 rfl rfl rfl rfl ?_
  refine s_of (st_lss rfl rfl rfl) rfl rfl rfl rfl ?_
  refine rt_nil ?_
  refine tri_cond rfl (fun c2 => ?_) (fun c2 => ?_)
  ·refine drop_elim hd0 c2 fun e0 rs0 he hx0 hn0 => ?_
   subst he
   rw [s_PutRecords_l0] at h
   refine tri_skip ?_
   refine tri_seq ?_
   refine tri_block ?_
   refine tri_region ?_
   refine m1 ?_
   refine m1 ?_
   refine m1 ?_
   refine s_indexF (i := v0_1) rfl rfl rfl sl26 (get_ltM hx0) rfl rfl rfl ?_
   refine s_loadFR rfl rfl (rowG hx0) ty87 rfl rfl rfl ?_
   refine bnd1_elim h fun x3 q4 h => ?_
   refine s_callN (kb := [(2005, 0)]) (ns := []) (v := .ref (21, 0) 0 x3.length) rfl rfl cl89 (ws_PutRecord v0_0 e0 x3 q4) rfl (.cons (lendL rfl (.head _) rfl byteV_free byteV_len) (.cons (relAgg rfl) .nil)) trivial memNil .nil (fun _ _ => List.not_mem_nil) rfl ⟨(allSc_map byteV_sc), trivial⟩ memNil rfl (by simp only [V.mat, V.mat1, V.mat0, matL, matT, List.length_map] <;> rfl) rfl rfl rfl rfl ?_
   refine m2 ?_
   refine rt_nil ?_
   refine tri_region ?_
   refine m1 ?_
   refine s_inc (a := v0_1) (b := 1) rfl rfl rfl rfl (by have := get_lt hx0; have := hl0; omega) rfl rfl rfl ?_
   refine m2 ?_
   refine rt_nil ?_
   refine Exists.intro ⟨(rs0, x3, (v0_1 + 1)), hn0, h⟩ (And.intro (Nat.lt_succ_self _) ?_)
   refine entX [((2005, 0), ⟨5, 1, List.map byteV x3, false, true⟩, some (21, 0))] [] ⟨⟨rfl, _, rfl, rfl, rfl, rfl, id, rowsCv_eq rfl (allFree_map byteV_free), rowsZ_map byteV_len⟩, trivial⟩ trivial rfl rfl ?_
   exact ⟨(.free rfl), (.ref rfl), (.free rfl), trivial⟩
  ·have he := drop_f hd0 c2; subst he
   rw [s_PutRecords_l0] at h
   refine tri_exit ?_
   refine tri_sr ?_
   refine m1 ?_
   refine m2 ?_
   refine rt_nil ?_
   refine tri_ret ?_
   have e0 := (some1 h); subst e0
   exact endY (v' := .ref (2000, 0) 0 v0_0.length) [((2000, 0), ⟨5, 1, List.map byteV v0_0, false, true⟩, some (2005, 0))] [] (rvC (resTmp rfl) rvN) ⟨⟨rfl, _, rfl, rfl, rfl, rfl, id, rowsCv_eq rfl (allFree_map byteV_free), rowsZ_map byteV_len⟩, trivial⟩ trivial rfl rfl (by kernel_rfl) (by simp only [V.mat, V.mat1, V.mat0, matL, matT, List.length_map] <;> rfl) (.ref rfl)

/- spec.PutMsg -/

set_option maxRecDepth 4000 in
set_option maxHeartbeats 800000 in
theorem ws_PutMsg (p0 : MMsg) (r0 : List Int) (h : s_PutMsg p0 = some r0) : Runs Tryz.prog 12 [.agg (mMsgV p0)] [] (.own 5 1 (List.map byteV r0)) [] := by
 unfold s_PutMsg at h
 refine runsR [.tmp 2] Tryz.func12 rfl rfl rfl rfl ?_
 rw [Tryz.ntmps12]
 refine tri_sr ?_
 refine s_box rfl rfl rfl rfl rfl rfl rfl ?_
 refine s_mv (.inr rfl) (v := .nils) rfl rfl rfl rfl ?_
 refine rt_nil ?_
 refine tri_seq ?_
 refine tri_sr ?_
 refine s_loadR rfl rfl rfl rfl ty28 rfl rfl rfl ?_
 refine bnd1_elim h fun x1 q2 h => ?_
 refine s_callN (kb := []) (ns := []) (v := .sc (.bool x1)) rfl rfl cl42 (ws_MsgOk p0 x1 q2) rfl (.cons (relAgg rfl) .nil) trivial memNil .nil memNil rfl trivial memNil rfl rfl rfl rfl rfl rfl ?_
 refine s_of (st_not rfl rfl) rfl rfl rfl rfl ?_
 refine rt_nil ?_
 refine tri_cond rfl (fun c3 => ?_) (fun c3 => ?_)
 ·replace h := cond_t h c3
  refine tri_sr ?_
  refine s_buildSlice (rows' := List.map byteV ([] : List Int)) rfl rfl rfl sl22 zc5 rfl rfl rfl rfl rfl rfl rfl rfl rfl ?_
  refine m2 ?_
  refine rt_nil ?_
  refine tri_ret ?_
  have e0 := (some1 h); subst e0
  exact endY (v' := .ref (2000, 0) 0 (([] : List Int).length)) [((2000, 0), ⟨5, 1, List.map byteV ([] : List Int), false, true⟩, some (7, 0))] [] (rvC (resTmp rfl) rvN) ⟨⟨rfl, _, rfl, rfl, rfl, rfl, id, rowsCv_eq rfl (allFree_map byteV_free), rowsZ_map byteV_len⟩, trivial⟩ trivial rfl rfl (by kernel_rfl) (by simp only [V.mat, V.mat1, V.mat0, matL, matT, List.length_map] <;> rfl) (.ref rfl)
 ·replace h := cond_f h c3
  refine tri_skip ?_
  refine tri_seq ?_
  refine tri_draw mixed ?_
  refine s_loadR rfl rfl rfl rfl ty28 rfl rfl rfl ?_
  refine bnd1_elim h fun x4 q5 h => ?_
  refine s_callN (kb := []) (ns := []) (v := .ref (9, 0) 0 x4.length) rfl rfl cl16 (ws_PutHead p0 x4 q5) rfl (.cons (relAgg rfl) .nil) trivial memNil .nil memNil rfl ⟨(allSc_map byteV_sc), trivial⟩ memNil rfl (by simp only [V.mat, V.mat1, V.mat0, matL, matT, List.length_map] <;> rfl) rfl rfl rfl rfl ?_
  refine s_fieldAddr rfl rfl fd28_7 rfl rfl rfl rfl ?_
  refine s_fieldAddr rfl rfl fd25_0 rfl rfl rfl rfl ?_
  refine s_load rfl rfl rfl rfl ty9 rfl (.inr rfl) (by conv => lhs; whnf) rfl rfl rfl ?_
  refine bnd1_elim h fun x6 q7 h => ?_
  refine s_callN (kb := [(9, 0)]) (ns := []) (v := .ref (13, 0) 0 x6.length) rfl rfl cl44 (ws_PutName x4 p0.q.name x6 q7) rfl (.cons (lendL rfl (.head _) rfl byteV_free byteV_len) (.cons (.free rfl) .nil)) trivial memNil .nil (fun _ _ => List.not_mem_nil) rfl ⟨(allSc_map byteV_sc), trivial⟩ memNil rfl (by simp only [V.mat, V.mat1, V.mat0, matL, matT, List.length_map] <;> rfl) rfl rfl rfl rfl ?_
  refine s_fieldAddr rfl rfl fd28_7 rfl rfl rfl rfl ?_
  refine s_fieldAddr rfl rfl fd25_1 rfl rfl rfl rfl ?_
  refine s_load rfl rfl rfl rfl ty3 rfl (.inr rfl) (by conv => lhs; whnf) rfl rfl rfl ?_
  refine bnd1_elim h fun x8 q9 h => ?_
  refine s_callN (kb := [(13, 0)]) (ns := []) (v := .ref (17, 0) 0 x8.length) rfl rfl cl43 (ws_Put2 x6 p0.q.ty x8 q9) rfl (.cons (lendL rfl (.head _) rfl byteV_free byteV_len) (.cons (.free rfl) .nil)) trivial memNil .nil (fun _ _ => List.not_mem_nil) rfl ⟨(allSc_map byteV_sc), trivial⟩ memNil rfl (by simp only [V.mat, V.mat1, V.mat0, matL, matT, List.length_map] <;> rfl) rfl rfl rfl rfl ?_
  refine bnd1_elim h fun x10 q11 h => ?_
  refine s_callN (kb := [(17, 0)]) (ns := []) (v := .ref (18, 0) 0 x10.length) rfl rfl cl43 (ws_Put2 x8 1 x10 q11) rfl (.cons (lendL rfl (.head _) rfl byteV_free byteV_len) (.cons (.free rfl) .nil)) trivial memNil .nil (fun _ _ => List.not_mem_nil) rfl ⟨(allSc_map byteV_sc), trivial⟩ memNil rfl (by simp only [V.mat, V.mat1, V.mat0, matL, matT, List.length_map] <;> rfl) rfl rfl rfl rfl ?_
  refine m2 ?_
  refine rt_nil ⟨by kernel_rfl, ?_⟩
  refine tri_seq ?_
  refine tri_draw mixed ?_
  refine m1 ?_
  refine s_fieldAddr rfl rfl fd28_8 rfl rfl rfl rfl ?_
  refine s_load rfl rfl rfl rfl ty26 rfl (.inr rfl) (by conv => lhs; whnf) rfl rfl rfl ?_
  refine bnd1_elim h fun x12 q13 h => ?_
  refine s_callN (kb := [(18, 0)]) (ns := []) (v := .ref (22, 0) 0 x12.length) rfl rfl cl45 (ws_PutRecords x10 p0.an x12 q13) rfl (.cons (lendL rfl (.head _) rfl byteV_free byteV_len) (.cons (.free rfl) .nil)) trivial memNil .nil (fun _ _ => List.not_mem_nil) rfl ⟨(allSc_map byteV_sc), trivial⟩ memNil rfl (by simp only [V.mat, V.mat1, V.mat0, matL, matT, List.length_map] <;> rfl) rfl rfl rfl rfl ?_
  refine s_fieldAddr rfl rfl fd28_9 rfl rfl rfl rfl ?_
  refine s_load rfl rfl rfl rfl ty26 rfl (.inr rfl) (by conv => lhs; whnf) rfl rfl rfl ?_
  refine bnd1_elim h fun x14 q15 h => ?_
  refine s_callN (kb := [(22, 0)]) (ns := []) (v := .ref (25, 0) 0 x14.length) rfl rfl cl45 (ws_PutRecords x12 p0.au x14 q15) rfl (.cons (lendL rfl (.head _) rfl byteV_free byteV_len) (.cons (.free rfl) .nil)) trivial memNil .nil (fun _ _ => List.not_mem_nil) rfl ⟨(allSc_map byteV_sc), trivial⟩ memNil rfl (by simp only [V.mat, V.mat1, V.mat0, matL, matT, List.length_map] <;> rfl) rfl rfl rfl rfl ?_
  refine s_fieldAddr rfl rfl fd28_10 rfl rfl rfl rfl ?_
  refine s_load rfl rfl rfl rfl ty26 rfl (.inr rfl) (by conv => lhs; whnf) rfl rfl rfl ?_
  refine bnd1_elim h fun x16 q17 h => ?_
  refine s_callN (kb := [(25, 0)]) (ns := []) (v := .ref (28, 0) 0 x16.length) rfl rfl cl45 (ws_PutRecords x14 p0.ad x16 q17) rfl (.cons (lendL rfl (.head _) rfl byteV_free byteV_len) (.cons (.free rfl) .nil)) trivial memNil .nil (fun _ _ => List.not_mem_nil) rfl ⟨(allSc_map byteV_sc), trivial⟩ memNil rfl (by simp only [V.mat, V.mat1, V.mat0, matL, matT, List.length_map] <;> rfl) rfl rfl rfl rfl ?_
  refine m2 ?_
  refine rt_nil ⟨by kernel_rfl, ?_⟩
  refine tri_seq ?_
  refine tri_sr ?_
  refine m1 ?_
  refine s_len (m := x16.length) rfl sl22 rfl rfl rfl rfl ?_
  refine s_of (st_gtr rfl rfl rfl) rfl rfl rfl rfl ?_
  refine rt_nil ?_
  refine tri_cond rfl (fun c18 => ?_) (fun c18 => ?_)
  ·replace h := cond_t h c18
   refine tri_sr ?_
   refine s_buildSlice (rows' := List.map byteV ([] : List Int)) rfl rfl rfl sl22 zc5 rfl rfl rfl rfl rfl rfl rfl rfl rfl ?_
   refine m2 ?_
   refine rt_nil ?_
   refine tri_ret ?_
   have e0 := (some1 h); subst e0
   exact endY (v' := .ref (2000, 0) 0 (([] : List Int).length)) [((2000, 0), ⟨5, 1, List.map byteV ([] : List Int), false, true⟩, some (32, 0))] [] (rvC (resTmp rfl) rvN) ⟨⟨rfl, _, rfl, rfl, rfl, rfl, id, rowsCv_eq rfl (allFree_map byteV_free), rowsZ_map byteV_len⟩, trivial⟩ trivial rfl rfl (by kernel_rfl) (by simp only [V.mat, V.mat1, V.mat0, matL, matT, List.length_map] <;> rfl) (.ref rfl)
  ·replace h := cond_f h c18
   refine tri_skip ?_
   refine tri_sr ?_
   refine m1 ?_
   refine m2 ?_
   refine rt_nil ?_
   refine tri_ret ?_
   have e0 := (some1 h); subst e0
   exact endY (v' := .ref (2000, 0) 0 x16.length) [((2000, 0), ⟨5, 1, List.map byteV x16, false, true⟩, some (28, 0))] [] (rvC (resTmp rfl) rvN) ⟨⟨rfl, _, rfl, rfl, rfl, rfl, id, rowsCv_eq rfl (allFree_map byteV_free), rowsZ_map byteV_len⟩, trivial⟩ trivial rfl rfl (by kernel_rfl) (by simp only [V.mat, V.mat1, V.mat0, matL, matT, List.length_map] <;> rfl) (.ref rfl)

/- spec.SizeOf -/

set_option maxRecDepth 4000 in
set_option maxHeartbeats 800000 in
theorem ws_SizeOf (p0 : MMsg) (r0 : Int) (h : s_SizeOf p0 = some r0) : Runs Tryz.prog 29 [.agg (mMsgV p0)] [] (.sc (.int .i64 r0)) [] := by
 unfold s_SizeOf at h
 refine runsR [.tmp 2] Tryz.func29 rfl rfl rfl rfl ?_
 rw [Tryz.ntmps29]
 refine tri_sr ?_
 refine s_box rfl rfl rfl rfl rfl rfl rfl ?_
 refine s_mv (.inr rfl) (v := .sc (.int .i64 0)) rfl rfl rfl rfl ?_
 refine rt_nil ?_
 refine tri_sr ?_
 refine s_loadR rfl rfl rfl rfl ty28 rfl rfl rfl ?_
 refine bnd1_elim h fun x1 q2 h => ?_
 refine s_callN (kb := []) (ns := []) (v := .ref (4, 0) 0 x1.length) rfl rfl cl12 (ws_PutMsg p0 x1 q2) rfl (.cons (relAgg rfl) .nil) trivial memNil .nil memNil rfl ⟨(allSc_map byteV_sc), trivial⟩ memNil rfl (by simp only [V.mat, V.mat1, V.mat0, matL, matT, List.length_map] <;> rfl) rfl rfl rfl rfl ?_
 refine s_len (m := x1.length) rfl sl22 rfl rfl rfl rfl ?_
 refine m2 ?_
 refine rt_nil ?_
 refine tri_ret ?_
 have e0 := (some1 h); subst e0
 exact endY [] [] (rvC (resTmp rfl) rvN) trivial trivial rfl rfl rfl rfl (.free rfl)

/- spec.Fits -/

set_option maxRecDepth 4000 in
set_option maxHeartbeats 800000 in
theorem ws_Fits (p0 : MMsg) (r0 : Bool) (h : s_Fits p0 = some r0) : Runs Tryz.prog 32 [.agg (mMsgV p0)] [] (.sc (.bool r0)) [] := by
 unfold s_Fits at h
 refine runsR [.tmp 2] Tryz.func32 rfl rfl rfl rfl ?_
 rw [Tryz.ntmps32]
 refine tri_sr ?_
 refine s_box rfl rfl rfl rfl rfl rfl rfl ?_
 refine s_mv (.inr rfl) (v := .sc (.bool false)) rfl rfl rfl rfl ?_
 refine rt_nil ?_
 refine tri_sr ?_
 refine s_loadR rfl rfl rfl rfl ty28 rfl rfl rfl ?_
 refine bnd1_elim h fun x1 q2 h => ?_
 refine s_callN (kb := []) (ns := []) (v := .sc (.int .i64 x1)) rfl rfl cl29 (ws_SizeOf p0 x1 q2) rfl (.cons (relAgg rfl) .nil) trivial memNil .nil memNil rfl trivial memNil rfl rfl rfl rfl rfl rfl ?_
 refine s_of (st_gtr rfl rfl rfl) rfl rfl rfl rfl ?_
 refine m2 ?_
 refine rt_nil ?_
 refine tri_ret ?_
 have e0 := (some1 h); subst e0
 exact endY [] [] (rvC (resTmp rfl) rvN) trivial trivial rfl rfl rfl rfl (.free rfl)

/- stringslite.IndexByte -/

set_option maxRecDepth 4000 in
set_option maxHeartbeats 800000 in
theorem winternal_stringslite_IndexByte (p0 : ByteArray) (p1 : Int) (r0 : Int) (h : internal_stringslite_IndexByte p0 p1 = some r0) : Runs Tryz.prog 156 [.sc (.string p0), .sc (.int .u8 p1)] [] (.sc (.int .i64 r0)) [] := by
 unfold internal_stringslite_IndexByte at h
 refine runsR [.tmp 4] Tryz.func156 rfl rfl rfl rfl ?_
 rw [Tryz.ntmps156]
 refine tri_sr ?_
 refine s_mv (.inr rfl) (v := .sc (.int .i64 0)) rfl rfl rfl rfl ?_
 refine rt_nil ?_
 refine tri_sr ?_
 refine m1 ?_
 refine m1 ?_
 refine s_idxByteString rfl rfl rfl Tryz.func162 (by kernel_rfl) (by kernel_rfl) (by kernel_rfl) (by kernel_rfl) rfl rfl rfl ?_
 refine m2 ?_
 refine rt_nil ?_
 refine tri_ret ?_
 have e0 := (some1 h); subst e0
 exact endY [] [] (rvC (resTmp rfl) rvN) trivial trivial rfl rfl rfl rfl (.free rfl)

/- stringslite.Index -/
def inv_internal_stringslite_Index_0 (p0 : ByteArray) (p1 : ByteArray) (j0_0 : Bool) : St := mkT 143 [(0, .sc (.string p0)), (1, .sc (.string p1)), (5, .sc (.int .i64 (p1.size : Int))), (16, .sc (.bool j0_0))] []
set_option maxRecDepth 4000 in
set_option maxHeartbeats 800000 in
theorem winternal_stringslite_Index (p0 : ByteArray) (p1 : ByteArray) (r0 : Int) (h : internal_stringslite_Index p0 p1 = some r0) : Runs Tryz.prog 152 [.sc (.string p0), .sc (.string p1)] [] (.sc (.int .i64 r0)) [] := by
 unfold internal_stringslite_Index at h
 refine runsR [.tmp 4] Tryz.func152 rfl rfl rfl rfl ?_
 rw [Tryz.ntmps152]
 refine tri_sr ?_
 refine s_mv (.inr rfl) (v := .sc (.int .i64 0)) rfl rfl rfl rfl ?_
 refine rt_nil ?_
 refine tri_sr ?_
 refine m1 ?_
 refine s_of (st_lenS rfl rfl iss9) rfl rfl rfl rfl ?_
 refine m2 ?_
 refine rt_nil ?_
 refine tri_seq ?_
 refine tri_block ?_
 refine tri_cutI (ι := { p : Bool // internal_stringslite_Index_j0 p0 p1 p = some r0 }) (fun p => inv_internal_stringslite_Index_0 p0 p1 p.1) ?_ ?_
 ·skip
  refine tri_region ?_
  refine m1 ?_
  refine s_of (st_eqI rfl rfl rfl) rfl rfl rfl rfl ?_
  refine m1 ?_
  refine s_split (t := 19) rfl (fun b1 => ?_) (fun b1 => ?_)
  ·replace h := cond_t h b1
   refine s_skip rfl rfl rfl ?_
   refine s_skip rfl rfl rfl ?_
   refine s_skip rfl rfl rfl ?_
   refine s_pickT rfl rfl (v := .sc (.bool true)) rfl rfl rfl rfl ?_
   refine m2 ?_
   refine rt_nil ?_
   refine Exists.intro ⟨true, h⟩ ?_
   refine entX [] [] trivial trivial rfl rfl ?_
   exact ⟨(.free rfl), (.free rfl), (.free rfl), (.free rfl), trivial⟩
  ·replace h := cond_f h b1
   refine m1 ?_
   refine m1 ?_
   refine s_of (st_eqS rfl rfl rfl) rfl rfl rfl rfl ?_
   refine s_pickF rfl rfl (by conv => lhs; whnf) rfl rfl rfl ?_
   refine m2 ?_
   refine rt_nil ?_
   refine Exists.intro ⟨decide (p1 = p0), h⟩ ?_
   refine entX [] [] trivial trivial rfl rfl ?_
   exact ⟨(.free rfl), (.free rfl), (.free rfl), (.free rfl), trivial⟩
 ·rintro ⟨j0_0, h⟩
  replace h : internal_stringslite_Index_j0 p0 p1 j0_0 = some r0 := h
  unfold internal_stringslite_Index_j0 at h
  show Tri _ _ _ (inv_internal_stringslite_Index_0 p0 p1 j0_0)
  refine tri_cond rfl (fun c1 => ?_) (fun c1 => ?_)
  ·replace h := cond_t h c1
   refine tri_sr ?_
   refine s_mv (.inr rfl) (v := .sc (.int .i64 0)) rfl rfl rfl rfl ?_
   refine rt_nil ?_
   refine tri_ret ?_
   have e0 := (some1 h); subst e0
   exact endY [] [] (rvC (resTmp rfl) rvN) trivial trivial rfl rfl rfl rfl (.free rfl)
  ·replace h := cond_f h c1
   refine tri_sr ?_
   refine m1 ?_
   refine s_of (st_eqI rfl rfl rfl) rfl rfl rfl rfl ?_
   refine m2 ?_
   refine rt_nil ?_
   refine tri_cond rfl (fun c2 => ?_) (fun c2 => ?_)
   ·replace h := cond_t h c2
    refine tri_sr ?_
    refine m1 ?_
    refine m1 ?_
    refine bnd1_elim h fun x3 q4 h => ?_
    refine s_idxS rfl rfl rfl iss9 q4 rfl rfl rfl ?_
    refine bnd1_elim h fun x5 q6 h => ?_
    refine s_callN (kb := []) (ns := []) (v := .sc (.int .i64 x5)) rfl rfl cl156 (winternal_stringslite_IndexByte p0 x3 x5 q6) rfl (.cons (.free rfl) (.cons (.free rfl) .nil)) trivial memNil .nil memNil rfl trivial memNil rfl rfl rfl rfl rfl rfl ?_
    refine m2 ?_
    refine rt_nil ?_
    refine tri_ret ?_
    have e0 := (some1 h); subst e0
    exact endY [] [] (rvC (resTmp rfl) rvN) trivial trivial rfl rfl rfl rfl (.free rfl)
   ·replace h := cond_f h c2
    refine tri_sr ?_
    refine m1 ?_
    refine m1 ?_
    refine s_of (st_lenS rfl rfl iss9) rfl rfl rfl rfl ?_
    refine s_of (st_geq rfl rfl rfl) rfl rfl rfl rfl ?_
    refine m2 ?_
    refine rt_nil ?_
    refine tri_cond rfl (fun c7 => ?_) (fun c7 => ?_)
    ·replace h := cond_t h c7
     refine tri_sr ?_
     refine s_mv (.inr rfl) (v := .sc (.int .i64 (-1))) rfl rfl rfl rfl ?_
     refine rt_nil ?_
     refine tri_ret ?_
     have e0 := (some1 h); subst e0
     exact endY [] [] (rvC (resTmp rfl) rvN) trivial trivial rfl rfl rfl rfl (.free rfl)
    ·replace h := cond_f h c7
     refine tri_sr ?_
     refine m1 ?_
     cases h

/- strings.Index -/

set_option maxRecDepth 4000 in
set_option maxHeartbeats 800000 in
theorem wstrings_Index (p0 : ByteArray) (p1 : ByteArray) (r0 : Int) (h : strings_Index p0 p1 = some r0) : Runs Tryz.prog 145 [.sc (.string p0), .sc (.string p1)] [] (.sc (.int .i64 r0)) [] := by
 unfold strings_Index at h
 refine runsR [.tmp 4] Tryz.func145 rfl rfl rfl rfl ?_
 rw [Tryz.ntmps145]
 refine tri_sr ?_
 refine s_mv (.inr rfl) (v := .sc (.int .i64 0)) rfl rfl rfl rfl ?_
 refine rt_nil ?_
 refine tri_sr ?_
 refine m1 ?_
 refine m1 ?_
 refine bnd1_elim h fun x1 q2 h => ?_
 refine s_callN (kb := []) (ns := []) (v := .sc (.int .i64 x1)) rfl rfl cl152 (winternal_stringslite_Index p0 p1 x1 q2) rfl (.cons (.free rfl) (.cons (.free rfl) .nil)) trivial memNil .nil memNil rfl trivial memNil rfl rfl rfl rfl rfl rfl ?_
 refine m2 ?_
 refine rt_nil ?_
 refine tri_ret ?_
 have e0 := (some1 h); subst e0
 exact endY [] [] (rvC (resTmp rfl) rvN) trivial trivial rfl rfl rfl rfl (.free rfl)

/- strings.Count -/
def inv_strings_Count_0 (p1 : ByteArray) (v0_0 : ByteArray) (v0_1 : Int) : St := mkT 34 [(0, .sc (.string v0_0)), (1, .sc (.string p1)), (5, .sc (.int .i64 v0_1))] []
set_option maxRecDepth 4000 in
set_option maxHeartbeats 800000 in
theorem wstrings_Count (p0 : ByteArray) (p1 : ByteArray) (r0 : Int) (h : strings_Count p0 p1 = some r0) : Runs Tryz.prog 144 [.sc (.string p0), .sc (.string p1)] [] (.sc (.int .i64 r0)) [] := by
 unfold strings_Count at h
 refine runsR [.tmp 4] Tryz.func144 rfl rfl rfl rfl ?_
 rw [Tryz.ntmps144]
 refine tri_sr ?_
 refine s_mv (.inr rfl) (v := .sc (.int .i64 0)) rfl rfl rfl rfl ?_
 refine rt_nil ?_
 refine tri_seq ?_
 refine tri_sr ?_
 refine m1 ?_
 refine s_of (st_lenS rfl rfl iss9) rfl rfl rfl rfl ?_
 refine s_of (st_eqI rfl rfl rfl) rfl rfl rfl rfl ?_
 refine rt_nil ?_
 refine tri_cond rfl (fun c1 => ?_) (fun c1 => ?_)
 ·replace h := cond_t h c1
  refine tri_sr ?_
  refine m1 ?_
  cases h
 ·replace h := cond_f h c1
  refine tri_skip ?_
  refine tri_seq ?_
  refine tri_sr ?_
  refine m1 ?_
  refine s_of (st_lenS rfl rfl iss9) rfl rfl rfl rfl ?_
  refine s_of (st_eqI rfl rfl rfl) rfl rfl rfl rfl ?_
  refine rt_nil ?_
  refine tri_cond rfl (fun c2 => ?_) (fun c2 => ?_)
  ·replace h := cond_t h c2
   refine tri_sr ?_
   refine m1 ?_
   refine m1 ?_
   refine bnd1_elim h fun x3 q4 h => ?_
   refine s_idxS rfl rfl rfl iss9 q4 rfl rfl rfl ?_
   refine s_countString rfl rfl rfl Tryz.func151 (by kernel_rfl) (by kernel_rfl) (by kernel_rfl) (by kernel_rfl) rfl rfl rfl ?_
   refine m2 ?_
   refine rt_nil ?_
   refine tri_ret ?_
   have e0 := (some1 h); subst e0
   exact endY [] [] (rvC (resTmp rfl) rvN) trivial trivial rfl rfl rfl rfl (.free rfl)
  ·replace h := cond_f h c2
   refine tri_skip ?_
   refine tri_sr ?_
   refine s_mv (.inr rfl) (v := .sc (.int .i64 0)) rfl rfl rfl rfl ?_
   refine rt_nil ?_
   refine tri_block ?_
   refine tri_loop (ι := { p : Nat × ByteArray × Int // strings_Count_l0 p1 p.1 p.2.1 p.2.2 = some r0 }) (fun p => inv_strings_Count_0 p1 p.1.2.1 p.1.2.2) (fun p => p.1.1) ⟨(fuel0, p0, 0), h⟩ ?_ ?_
   ·skip
    refine entX [] [] trivial trivial rfl rfl ?_
    exact ⟨(.free rfl), (.free rfl), (.free rfl), trivial⟩
   ·rintro ⟨⟨f0, v0_0, v0_1⟩, h⟩
    replace h : strings_Count_l0 p1 f0 v0_0 v0_1 = some r0 := h
    cases f0 with
    | zero => cases h
    | succ f0 =>
    rw [strings_Count_l0] at h
    show Tri _ _ _ (inv_strings_Count_0 p1 v0_0 v0_1)
    refine tri_block ?_
    refine tri_sr ?_
    refine m1 ?_
    refine m1 ?_
    refine bnd1_elim h fun x5 q6 h => ?_
    refine s_callN (kb := []) (ns := []) (v := .sc (.int .i64 x5)) rfl rfl cl145 (wstrings_Index v0_0 p1 x5 q6) rfl (.cons (.free rfl) (.cons (.free rfl) .nil)) trivial memNil .nil memNil rfl trivial memNil rfl rfl rfl rfl rfl rfl ?_
    refine m2 ?_
    refine rt_nil ?_
    refine tri_seq ?_
    refine tri_sr ?_
    refine m1 ?_
    refine s_of (st_eqI rfl rfl rfl) rfl rfl rfl rfl ?_
    refine rt_nil ?_
    refine tri_cond rfl (fun c7 => ?_) (fun c7 => ?_)
    ·replace h := cond_t h c7
     refine tri_sr ?_
     refine m1 ?_
     refine m2 ?_
     refine rt_nil ?_
     refine tri_ret ?_
     have e0 := (some1 h); subst e0
     exact endY [] [] (rvC (resTmp rfl) rvN) trivial trivial rfl rfl rfl rfl (.free rfl)
    ·replace h := cond_f h c7
     refine tri_skip ?_
     refine tri_sr ?_
     refine m1 ?_
     refine grd_elim h fun g8 h => ?_
     refine s_addI rfl rfl rfl rfl g8 rfl rfl rfl ?_
     refine m2 ?_
     refine rt_nil ?_
     refine tri_region ?_
     refine m1 ?_
     refine m1 ?_
     refine m1 ?_
     refine s_of (st_lenS rfl rfl iss9) rfl rfl rfl rfl ?_
     refine grd_elim h fun g9 h => ?_
     refine s_addI rfl rfl rfl rfl g9 rfl rfl rfl ?_
     refine grd_elim h fun g10 h => ?_
     refine s_sliceS (a := x5 + (p1.size : Int)) (b := (v0_0.size : Int)) rfl rfl iss9 ⟨_, rfl⟩ rfl g10 rfl rfl rfl ?_
     refine m2 ?_
     refine rt_nil ?_
     refine Exists.intro ⟨(f0, v0_0.extract (x5 + (p1.size : Int)).toNat (v0_0.size : Int).toNat, v0_1 + 1), h⟩ (And.intro (Nat.lt_succ_self _) ?_)
     refine entX [] [] trivial trivial rfl rfl ?_
     exact ⟨(.free rfl), (.free rfl), (.free rfl), trivial⟩

/- strings.genSplit -/
def inv_strings_genSplit_2 (p0 : ByteArray) (p1 : ByteArray) (p2 : Int) (j0_0 : Int) (v2_0 : ByteArray) (v2_1 : List ByteArray) (v2_2 : Int) : St := mkT 66 [(0, .sc (.string v2_0)), (1, .sc (.string p1)), (2, .sc (.int .i64 p2)), (3, .sc (.int .i64 ((if (p0.size : Int) + 1 < j0_0 then (p0.size : Int) + 1 else j0_0) - 1))), (9, .ref (31, 0) 0 v2_1.length), (10, .sc (.int .i64 v2_2))] [((31, 0), some ⟨9, 1, List.map strV v2_1, false, true⟩)]
def inv_strings_genSplit_1  (j1_0 : ByteArray) (j1_1 : List ByteArray) (j1_2 : Int) : St := mkT 66 [(0, .sc (.string j1_0)), (9, .ref (31, 0) 0 j1_1.length), (10, .sc (.int .i64 j1_2))] [((31, 0), some ⟨9, 1, List.map strV j1_1, false, true⟩)]
def inv_strings_genSplit_0 (p0 : ByteArray) (p1 : ByteArray) (p2 : Int) (j0_0 : Int) : St := mkT 66 [(0, .sc (.string p0)), (1, .sc (.string p1)), (2, .sc (.int .i64 p2)), (3, .sc (.int .i64 j0_0))] []
set_option maxRecDepth 4000 in
set_option maxHeartbeats 800000 in
theorem wstrings_genSplit (p0 : ByteArray) (p1 : ByteArray) (p2 : Int) (p3 : Int) (r0 : List ByteArray) (h : strings_genSplit p0 p1 p2 p3 = some r0) : Runs Tryz.prog 136 [.sc (.string p0), .sc (.string p1), .sc (.int .i64 p2), .sc (.int .i64 p3)] [] (.own 9 1 (List.map strV r0)) [] := by
 unfold strings_genSplit at h
 refine runsR [.tmp 8] Tryz.func136 rfl rfl rfl rfl ?_
 rw [Tryz.ntmps136]
 refine tri_sr ?_
 refine s_mv (.inr rfl) (v := .nils) rfl rfl rfl rfl ?_
 refine rt_nil ?_
 refine tri_seq ?_
 refine tri_sr ?_
 refine m1 ?_
 refine s_of (st_eqI rfl rfl rfl) rfl rfl rfl rfl ?_
 refine rt_nil ?_
 refine tri_cond rfl (fun c1 => ?_) (fun c1 => ?_)
 ·replace h := cond_t h c1
  refine tri_sr ?_
  refine s_mv (.inr rfl) (v := .nils) rfl rfl rfl rfl ?_
  refine rt_nil ?_
  refine tri_ret ?_
  have e0 := (some1 h); subst e0
  exact endY (v' := .ref (2000, 0) 0 (([] : List ByteArray).length)) [((2000, 0), ⟨9, 1, List.map strV ([] : List ByteArray), false, true⟩, none)] [] (rvC (resTmp rfl) rvN) ⟨rfl, trivial⟩ trivial rfl rfl (by kernel_rfl) (by simp only [V.mat, V.mat1, V.mat0, matL, matT, List.length_map] <;> rfl) (.nilRef rfl)
 ·replace h := cond_f h c1
  refine tri_skip ?_
  refine tri_seq ?_
  refine tri_sr ?_
  refine m1 ?_
  refine s_of (st_eqS rfl rfl rfl) rfl rfl rfl rfl ?_
  refine rt_nil ?_
  refine tri_cond rfl (fun c2 => ?_) (fun c2 => ?_)
  ·replace h := cond_t h c2
   refine tri_sr ?_
   refine m1 ?_
   refine m1 ?_
   cases h
  ·replace h := cond_f h c2
   refine tri_skip ?_
   refine tri_cutI (ι := { p : Int // strings_genSplit_j0 p0 p1 p2 p = some r0 }) (fun p => inv_strings_genSplit_0 p0 p1 p2 p.1) ?_ ?_
   ·skip
    refine tri_sr ?_
    refine m1 ?_
    refine s_of (st_lss rfl rfl rfl) rfl rfl rfl rfl ?_
    refine rt_nil ?_
    refine tri_cond rfl (fun c3 => ?_) (fun c3 => ?_)
    ·replace h := cond_t h c3
     refine tri_region ?_
     refine m1 ?_
     refine m1 ?_
     refine bnd1_elim h fun x4 q5 h => ?_
     refine s_callN (kb := []) (ns := []) (v := .sc (.int .i64 x4)) rfl rfl cl144 (wstrings_Count p0 p1 x4 q5) rfl (.cons (.free rfl) (.cons (.free rfl) .nil)) trivial memNil .nil memNil rfl trivial memNil rfl rfl rfl rfl rfl rfl ?_
     refine grd_elim h fun g6 h => ?_
     refine s_addI rfl rfl rfl rfl g6 rfl rfl rfl ?_
     refine m2 ?_
     refine rt_nil ?_
     refine Exists.intro ⟨x4 + 1, h⟩ ?_
     refine entX [] [] trivial trivial rfl rfl ?_
     exact ⟨(.free rfl), (.free rfl), (.free rfl), (.free rfl), trivial⟩
    ·replace h := cond_f h c3
     refine tri_skip ?_
     refine Exists.intro ⟨p3, h⟩ ?_
     refine entX [] [] trivial trivial rfl rfl ?_
     exact ⟨(.free rfl), (.free rfl), (.free rfl), (.free rfl), trivial⟩
   ·rintro ⟨j0_0, h⟩
    replace h : strings_genSplit_j0 p0 p1 p2 j0_0 = some r0 := h
    unfold strings_genSplit_j0 at h
    show Tri _ _ _ (inv_strings_genSplit_0 p0 p1 p2 j0_0)
    refine tri_sr ?_
    refine m1 ?_
    refine m1 ?_
    refine s_of (st_lenS rfl rfl iss9) rfl rfl rfl rfl ?_
    refine grd_elim h fun g3 h => ?_
    refine s_addI rfl rfl rfl rfl g3 rfl rfl rfl ?_
    refine s_of (st_minI rfl rfl rfl) rfl rfl rfl rfl ?_
    refine m2 ?_
    refine rt_nil ?_
    refine tri_sr ?_
    refine m1 ?_
    refine grd_elim h fun g4 h => ?_
    refine s_makeL (f := strV) (a := (⟨#[]⟩ : ByteArray)) rfl rfl rfl rfl rfl sl91 zc9 rfl rfl rfl rfl g4.1 g4.2 (rowZ_cv rfl rowZ_nil) rfl rfl ?_
    refine m2 ?_
    refine rt_nil ?_
    refine tri_sr ?_
    refine m1 ?_
    refine grd_elim h fun g5 h => ?_
    refine s_subI rfl rfl rfl rfl g5 rfl rfl rfl ?_
    refine m2 ?_
    refine rt_nil ?_
    refine tri_sr ?_
    refine s_mv (.inr rfl) (v := .sc (.int .i64 0)) rfl rfl rfl rfl ?_
    refine rt_nil ?_
    refine tri_cutI (ι := { p : ByteArray × (List ByteArray) × Int // strings_genSplit_j1 p.1 p.2.1 p.2.2 = some r0 }) (fun p => inv_strings_genSplit_1 p.1.1 p.1.2.1 p.1.2.2) ?_ ?_
    ·skip
     refine tri_block ?_
     refine tri_loop (ι := { p : Nat × ByteArray × (List ByteArray) × Int // strings_genSplit_l2 p0 p1 p2 j0_0 p.1 p.2.1 p.2.2.1 p.2.2.2 = some r0 }) (fun p => inv_strings_genSplit_2 p0 p1 p2 j0_0 p.1.2.1 p.1.2.2.1 p.1.2.2.2) (fun p => p.1.1) ⟨(fuel0, p0, List.replicate (if (p0.size : Int) + 1 < j0_0 then (p0.size : Int) + 1 else j0_0).toNat (⟨#[]⟩ : ByteArray), 0), h⟩ ?_ ?_
     ·skip
      refine entX [((31, 0), ⟨9, 1, List.map strV (List.replicate (if (p0.size : Int) + 1 < j0_0 then (p0.size : Int) + 1 else j0_0).toNat (⟨#[]⟩ : ByteArray)), false, true⟩, some (31, 0))] [] ⟨⟨rfl, _, rfl, rfl, rfl, rfl, id, rowsCv_eq rfl (allFree_map strV_free), rowsZ_map strV_len⟩, trivial⟩ trivial rfl rfl ?_
      exact ⟨(.free rfl), (.free rfl), (.free rfl), (.free rfl), (.ref rfl), (.free rfl), trivial⟩
     ·rintro ⟨⟨f2, v2_0, v2_1, v2_2⟩, h⟩
      replace h : strings_genSplit_l2 p0 p1 p2 j0_0 f2 v2_0 v2_1 v2_2 = some r0 := h
      cases f2 with
      | zero => cases h
      | succ f2 =>
      rw [strings_genSplit_l2] at h
      show Tri _ _ _ (inv_strings_genSplit_2 p0 p1 p2 j0_0 v2_0 v2_1 v2_2)
      refine tri_seq ?_
      refine tri_sr ?_
      refine m1 ?_
      refine m1 ?_
      refine s_of (st_lss rfl rfl rfl) rfl rfl rfl rfl ?_
      refine rt_nil ?_
      refine tri_cond rfl (fun c6 => ?_) (fun c6 => ?_)
      ·replace h := cond_t h c6
       refine tri_skip ?_
       refine tri_block ?_
       refine tri_sr ?_
       refine m1 ?_
       refine m1 ?_
       refine bnd1_elim h fun x7 q8 h => ?_
       refine s_callN (kb := []) (ns := []) (v := .sc (.int .i64 x7)) rfl rfl cl145 (wstrings_Index v2_0 p1 x7 q8) rfl (.cons (.free rfl) (.cons (.free rfl) .nil)) trivial memNil .nil memNil rfl trivial memNil rfl rfl rfl rfl rfl rfl ?_
       refine m2 ?_
       refine rt_nil ?_
       refine tri_seq ?_
       refine tri_sr ?_
       refine m1 ?_
       refine s_of (st_lss rfl rfl rfl) rfl rfl rfl rfl ?_
       refine rt_nil ?_
       refine tri_cond rfl (fun c9 => ?_) (fun c9 => ?_)
       ·replace h := cond_t h c9
        refine tri_exit ?_
        refine Exists.intro ⟨(v2_0, v2_1, v2_2), h⟩ ?_
        refine entX [((31, 0), ⟨9, 1, List.map strV v2_1, false, true⟩, some (31, 0))] [] ⟨⟨rfl, _, rfl, rfl, rfl, rfl, id, rowsCv_eq rfl (allFree_map strV_free), rowsZ_map strV_len⟩, trivial⟩ trivial rfl rfl ?_
        exact ⟨(.free rfl), (.ref rfl), (.free rfl), trivial⟩
       ·replace h := cond_f h c9
        refine tri_skip ?_
        refine tri_sr ?_
        refine m1 ?_
        refine m1 ?_
        refine m1 ?_
        refine m1 ?_
        refine m1 ?_
        refine grd_elim h fun g10 h => ?_
        refine s_addI rfl rfl rfl rfl g10 rfl rfl rfl ?_
        refine grd_elim h fun g11 h => ?_
        refine s_sliceS (a := ((0 : Nat) : Int)) (b := x7 + p2) rfl rfl iss9 rfl ⟨_, rfl⟩ g11 rfl rfl rfl ?_
        refine bnd1_elim h fun x12 q13 h => ?_
        have q13a := (idx_some q13).1; have q13b := (idx_some q13).2
        refine s_indexZ rfl rfl rfl rfl sl91 rfl q13a (get_lt q13b) rfl rfl rfl ?_
        refine s_storeL (x' := v2_0.extract ((0 : Nat) : Int).toNat (x7 + p2).toNat) rfl rfl rfl q13b ty9 rfl rfl rfl rfl rfl rfl ?_
        refine rt_nil ?_
        refine tri_sr ?_
        refine m1 ?_
        refine m1 ?_
        refine m1 ?_
        refine s_of (st_lenS rfl rfl iss9) rfl rfl rfl rfl ?_
        refine grd_elim h fun g14 h => ?_
        refine s_addI rfl rfl rfl rfl g14 rfl rfl rfl ?_
        refine grd_elim h fun g15 h => ?_
        refine s_sliceS (a := x7 + (p1.size : Int)) (b := (v2_0.size : Int)) rfl rfl iss9 ⟨_, rfl⟩ rfl g15 rfl rfl rfl ?_
        refine m2 ?_
        refine rt_nil ?_
        refine tri_region ?_
        refine m1 ?_
        refine grd_elim h fun g16 h => ?_
        refine s_addI rfl rfl rfl rfl g16 rfl rfl rfl ?_
        refine m2 ?_
        refine rt_nil ?_
        refine Exists.intro ⟨(f2, v2_0.extract (x7 + (p1.size : Int)).toNat (v2_0.size : Int).toNat, v2_1.set v2_2.toNat (v2_0.extract ((0 : Nat) : Int).toNat (x7 + p2).toNat), v2_2 + 1), h⟩ (And.intro (Nat.lt_succ_self _) ?_)
        refine entX [((31, 0), ⟨9, 1, List.map strV (v2_1.set v2_2.toNat (v2_0.extract ((0 : Nat) : Int).toNat (x7 + p2).toNat)), false, true⟩, some (31, 0))] [] ⟨⟨rfl, _, rfl, rfl, rfl, rfl, id, rowsCv_eq rfl (allFree_map strV_free), rowsZ_map strV_len⟩, trivial⟩ trivial rfl rfl ?_
        exact ⟨(.free rfl), (.free rfl), (.free rfl), (.free rfl), (cvRefLen rfl (by simp only [List.length_set])), (.free rfl), trivial⟩
      ·replace h := cond_f h c6
       refine tri_exit ?_
       refine Exists.intro ⟨(v2_0, v2_1, v2_2), h⟩ ?_
       refine entX [((31, 0), ⟨9, 1, List.map strV v2_1, false, true⟩, some (31, 0))] [] ⟨⟨rfl, _, rfl, rfl, rfl, rfl, id, rowsCv_eq rfl (allFree_map strV_free), rowsZ_map strV_len⟩, trivial⟩ trivial rfl rfl ?_
       exact ⟨(.free rfl), (.ref rfl), (.free rfl), trivial⟩
    ·rintro ⟨⟨j1_0, j1_1, j1_2⟩, h⟩
     replace h : strings_genSplit_j1 j1_0 j1_1 j1_2 = some r0 := h
     unfold strings_genSplit_j1 at h
     show Tri _ _ _ (inv_strings_genSplit_1 j1_0 j1_1 j1_2)
     refine tri_sr ?_
     refine m1 ?_
     refine m1 ?_
     refine m1 ?_
     refine bnd1_elim h fun x6 q7 h => ?_
     have q7a := (idx_some q7).1; have q7b := (idx_some q7).2
     refine s_indexZ rfl rfl rfl rfl sl91 rfl q7a (get_lt q7b) rfl rfl rfl ?_
     refine s_storeL (x' := j1_0) rfl rfl rfl q7b ty9 rfl rfl rfl rfl rfl rfl ?_
     refine rt_nil ?_
     refine tri_sr ?_
     refine m1 ?_
     refine m1 ?_
     refine grd_elim h fun g8 h => ?_
     refine s_addI rfl rfl rfl rfl g8 rfl rfl rfl ?_
     refine grd_elim h fun g9 h => ?_
     refine s_sliceZ (a := ((0 : Nat) : Int)) (b := j1_2 + 1) rfl rfl rfl sl91 rfl rfl ⟨_, rfl⟩ g9 rfl rfl rfl ?_
     refine m2 ?_
     refine rt_nil ?_
     refine tri_ret ?_
     have e0 := (some1 h); subst e0
     exact endY (v' := .ref (2000, 0) 0 ((((j1_1.set j1_2.toNat j1_0).drop (0 + ((0 : Nat) : Int).toNat)).take ((j1_2 + 1).toNat - ((0 : Nat) : Int).toNat)).length)) [((2000, 0), ⟨9, 1, List.map strV (((j1_1.set j1_2.toNat j1_0).drop (0 + ((0 : Nat) : Int).toNat)).take ((j1_2 + 1).toNat - ((0 : Nat) : Int).toNat)), false, true⟩, some (31, 0))] [] (rvC (resTmp rfl) rvN) ⟨⟨rfl, _, rfl, rfl, rfl, rfl, id, rowsCv_pre rfl strV_free, rowsZ_map strV_len⟩, trivial⟩ trivial rfl rfl (by kernel_rfl) (by simp only [V.mat, V.mat1, V.mat0, matL, matT, List.length_map] <;> rfl) (cvRefPre rfl rfl (by simp only [List.length_take, List.length_drop, List.length_set]; omega))

/- strings.Split -/

set_option maxRecDepth 4000 in
set_option maxHeartbeats 800000 in
theorem wstrings_Split (p0 : ByteArray) (p1 : ByteArray) (r0 : List ByteArray) (h : strings_Split p0 p1 = some r0) : Runs Tryz.prog 115 [.sc (.string p0), .sc (.string p1)] [] (.own 9 1 (List.map strV r0)) [] := by
 unfold strings_Split at h
 refine runsR [.tmp 4] Tryz.func115 rfl rfl rfl rfl ?_
 rw [Tryz.ntmps115]
 refine tri_sr ?_
 refine s_mv (.inr rfl) (v := .nils) rfl rfl rfl rfl ?_
 refine rt_nil ?_
 refine tri_sr ?_
 refine m1 ?_
 refine m1 ?_
 refine bnd1_elim h fun x1 q2 h => ?_
 refine s_callN (kb := []) (ns := []) (v := .ref (7, 0) 0 x1.length) rfl rfl cl136 (wstrings_genSplit p0 p1 0 (-1) x1 q2) rfl (.cons (.free rfl) (.cons (.free rfl) (.cons (.free rfl) (.cons (.free rfl) .nil)))) trivial memNil .nil memNil rfl ⟨(allSc_map strV_sc), trivial⟩ memNil rfl (by simp only [V.mat, V.mat1, V.mat0, matL, matT, List.length_map] <;> rfl) rfl rfl rfl rfl ?_
 refine m2 ?_
 refine rt_nil ?_
 refine tri_ret ?_
 have e0 := (some1 h); subst e0
 exact endY (v' := .ref (2000, 0) 0 x1.length) [((2000, 0), ⟨9, 1, List.map strV x1, false, true⟩, some (7, 0))] [] (rvC (resTmp rfl) rvN) ⟨⟨rfl, _, rfl, rfl, rfl, rfl, id, rowsCv_eq rfl (allFree_map strV_free), rowsZ_map strV_len⟩, trivial⟩ trivial rfl rfl (by kernel_rfl) (by simp only [V.mat, V.mat1, V.mat0, matL, matT, List.length_map] <;> rfl) (.ref rfl)

/- impl.Labels -/

set_option maxRecDepth 4000 in
set_option maxHeartbeats 800000 in
theorem wi_Labels (p0 : ByteArray) (r0 : List ByteArray) (h : i_Labels p0 = some r0) : Runs Tryz.prog 76 [.sc (.string p0)] [] (.own 9 1 (List.map strV r0)) [] := by
 unfold i_Labels at h
 refine runsR [.tmp 2] Tryz.func76 rfl rfl rfl rfl ?_
 rw [Tryz.ntmps76]
 refine tri_sr ?_
 refine s_mv (.inr rfl) (v := .nils) rfl rfl rfl rfl ?_
 refine rt_nil ?_
 refine tri_seq ?_
 refine tri_sr ?_
 refine m1 ?_
 refine s_of (st_eqS rfl rfl rfl) rfl rfl rfl rfl ?_
 refine rt_nil ?_
 refine tri_cond rfl (fun c1 => ?_) (fun c1 => ?_)
 ·replace h := cond_t h c1
  refine tri_sr ?_
  refine s_mv (.inr rfl) (v := .nils) rfl rfl rfl rfl ?_
  refine rt_nil ?_
  refine tri_ret ?_
  have e0 := (some1 h); subst e0
  exact endY (v' := .ref (2000, 0) 0 (([] : List ByteArray).length)) [((2000, 0), ⟨9, 1, List.map strV ([] : List ByteArray), false, true⟩, none)] [] (rvC (resTmp rfl) rvN) ⟨rfl, trivial⟩ trivial rfl rfl (by kernel_rfl) (by simp only [V.mat, V.mat1, V.mat0, matL, matT, List.length_map] <;> rfl) (.nilRef rfl)
 ·replace h := cond_f h c1
  refine tri_skip ?_
  refine tri_sr ?_
  refine m1 ?_
  refine bnd1_elim h fun x2 q3 h => ?_
  refine s_callN (kb := []) (ns := []) (v := .ref (6, 0) 0 x2.length) rfl rfl cl115 (wstrings_Split p0 (⟨#[46]⟩ : ByteArray) x2 q3) rfl (.cons (.free rfl) (.cons (.free rfl) .nil)) trivial memNil .nil memNil rfl ⟨(allSc_map strV_sc), trivial⟩ memNil rfl (by simp only [V.mat, V.mat1, V.mat0, matL, matT, List.length_map] <;> rfl) rfl rfl rfl rfl ?_
  refine m2 ?_
  refine rt_nil ?_
  refine tri_ret ?_
  have e0 := (some1 h); subst e0
  exact endY (v' := .ref (2000, 0) 0 x2.length) [((2000, 0), ⟨9, 1, List.map strV x2, false, true⟩, some (6, 0))] [] (rvC (resTmp rfl) rvN) ⟨⟨rfl, _, rfl, rfl, rfl, rfl, id, rowsCv_eq rfl (allFree_map strV_free), rowsZ_map strV_len⟩, trivial⟩ trivial rfl rfl (by kernel_rfl) (by simp only [V.mat, V.mat1, V.mat0, matL, matT, List.length_map] <;> rfl) (.ref rfl)

/- slices.IndexFunc[[]string,string] -/
def inv_slices_IndexFunc_string_0 (p0 : List ByteArray) (fi1 : FuncId) (cp1 : List V) (v0_0 : Nat) : St := mkT 19 [(0, .lst 1 (List.map strV p0)), (1, .fn fi1 cp1), (7, .sc (.int .i64 (p0.length : Int))), (8, .sc (.int .i64 (v0_0 : Int)))] []
set_option maxRecDepth 4000 in
set_option maxHeartbeats 800000 in
theorem wslices_IndexFunc_string (p0 : List ByteArray) (fi1 : FuncId) (cp1 : List V) (hf1 : cp1.all (·.free) = true) (hb1 : callable Tryz.prog fi1 = true) (p1 : ByteArray → Option Bool) (hg1 : ∀ (z0 : ByteArray) v, p1 z0 = some v → Runs Tryz.prog fi1 ([.sc (.string z0)] ++ cp1) [] (.sc (.bool v)) []) (r0 : Int) (h : slices_IndexFunc_string p0 p1 = some r0) : Runs Tryz.prog 135 [.lst 1 (List.map strV p0), .fn fi1 cp1] [] (.sc (.int .i64 r0)) [] := by
 unfold slices_IndexFunc_string at h
 refine runsR [.tmp 4] Tryz.func135 rfl rfl rfl rfl ?_
 rw [Tryz.ntmps135]
 refine tri_sr ?_
 refine s_mv (.inr rfl) (v := .sc (.int .i64 0)) rfl rfl rfl rfl ?_
 refine rt_nil ?_
 refine tri_seq ?_
 refine tri_sr ?_
 refine m1 ?_
 refine s_lenL rfl sl91 rfl rfl rfl rfl ?_
 refine s_mv (.inl rfl) (v := .sc (.int .i64 0)) rfl rfl rfl rfl ?_
 refine rt_nil ?_
 refine tri_block ?_
 refine tri_lstM 0 rfl (fun hl0 => ?_)
 refine tri_loop (ι := { p : (List ByteArray) × Nat // p0.drop p.2 = p.1 ∧ slices_IndexFunc_string_l0 p1 p.1 p.2 = some r0 }) (fun p => inv_slices_IndexFunc_string_0 p0 fi1 cp1 p.1.2) (fun p => p.1.1.length) ⟨(p0, 0), rfl, h⟩ ?_ ?_
 ·skip
  refine entX [] [] trivial trivial rfl rfl ?_
  exact ⟨(.free rfl), (cvFn hf1), (.free rfl), (.free rfl), trivial⟩
 ·rintro ⟨⟨lrs0, v0_0⟩, hd0, h⟩
  replace hd0 : p0.drop v0_0 = lrs0 := hd0
  replace h : slices_IndexFunc_string_l0 p1 lrs0 v0_0 = some r0 := h
  show Tri _ _ _ (inv_slices_IndexFunc_string_0 p0 fi1 cp1 v0_0)
  refine tri_sr ?_
  refine s_of (st_lss rfl rfl rfl) rfl rfl rfl rfl ?_
  refine rt_nil ?_
  refine tri_seq ?_
  refine tri_cond rfl (fun c1 => ?_) (fun c1 => ?_)
  ·refine drop_elim hd0 c1 fun e0 rs0 he hx0 hn0 => ?_
   subst he
   rw [slices_IndexFunc_string_l0] at h
   refine tri_skip ?_
   refine tri_seq ?_
   refine tri_block ?_
   refine tri_sr ?_
   refine m1 ?_
   refine m2 ?_
   refine rt_nil ?_
   refine tri_sr ?_
   refine m1 ?_
   refine m1 ?_
   refine m1 ?_
   refine s_indexF (i := v0_0) rfl rfl rfl sl91 (get_ltM hx0) rfl rfl rfl ?_
   refine s_loadF rfl rfl (rowG hx0) ty9 rfl (.inr rfl) (by conv => lhs; whnf) rfl rfl rfl ?_
   refine bnd1_elim h fun x2 q3 h => ?_
   refine s_callN (kb := []) (ns := []) (v := .sc (.bool x2)) rfl rfl hb1 (hg1 e0 x2 q3) rfl (.cons (.free rfl) (argsFree hf1)) trivial memNil .nil memNil rfl trivial memNil rfl rfl rfl rfl rfl rfl ?_
   refine rt_nil ?_
   refine tri_cond rfl (fun c4 => ?_) (fun c4 => ?_)
   ·replace h := cond_t h c4
    refine tri_sr ?_
    refine m1 ?_
    refine m2 ?_
    refine rt_nil ?_
    refine tri_ret ?_
    have e0 := (some1 h); subst e0
    exact endY [] [] (rvC (resTmp rfl) rvN) trivial trivial rfl rfl rfl rfl (.free rfl)
   ·replace h := cond_f h c4
    refine tri_skip ?_
    refine tri_region ?_
    refine s_inc (a := v0_0) (b := 1) rfl rfl rfl rfl (by have := get_lt hx0; have := hl0; omega) rfl rfl rfl ?_
    refine m1 ?_
    refine rt_nil ?_
    refine Exists.intro ⟨(rs0, (v0_0 + 1)), hn0, h⟩ (And.intro (Nat.lt_succ_self _) ?_)
    refine entX [] [] trivial trivial rfl rfl ?_
    exact ⟨(.free rfl), (cvFn hf1), (.free rfl), (.free rfl), trivial⟩
  ·have he := drop_f hd0 c1; subst he
   rw [slices_IndexFunc_string_l0] at h
   refine tri_exit ?_
   refine tri_sr ?_
   refine s_mv (.inr rfl) (v := .sc (.int .i64 (-1))) rfl rfl rfl rfl ?_
   refine rt_nil ?_
   refine tri_ret ?_
   have e0 := (some1 h); subst e0
   exact endY [] [] (rvC (resTmp rfl) rvN) trivial trivial rfl rfl rfl rfl (.free rfl)

/- slices.ContainsFunc[[]string,string] -/

set_option maxRecDepth 4000 in
set_option maxHeartbeats 800000 in
theorem wslices_ContainsFunc_string (p0 : List ByteArray) (fi1 : FuncId) (cp1 : List V) (hf1 : cp1.all (·.free) = true) (hb1 : callable Tryz.prog fi1 = true) (p1 : ByteArray → Option Bool) (hg1 : ∀ (z0 : ByteArray) v, p1 z0 = some v → Runs Tryz.prog fi1 ([.sc (.string z0)] ++ cp1) [] (.sc (.bool v)) []) (r0 : Bool) (h : slices_ContainsFunc_string p0 p1 = some r0) : Runs Tryz.prog 112 [.lst 1 (List.map strV p0), .fn fi1 cp1] [] (.sc (.bool r0)) [] := by
 unfold slices_ContainsFunc_string at h
 refine runsR [.tmp 4] Tryz.func112 rfl rfl rfl rfl ?_
 rw [Tryz.ntmps112]
 refine tri_sr ?_
 refine s_mv (.inr rfl) (v := .sc (.bool false)) rfl rfl rfl rfl ?_
 refine rt_nil ?_
 refine tri_sr ?_
 refine m1 ?_
 refine m1 ?_
 refine bnd1_elim h fun x1 q2 h => ?_
 refine s_callN (kb := []) (ns := []) (v := .sc (.int .i64 x1)) rfl rfl cl135 (wslices_IndexFunc_string p0 fi1 cp1 hf1 hb1 p1 hg1 x1 q2) rfl (.cons (.free rfl) (.cons (relFn hf1) .nil)) trivial memNil .nil memNil rfl trivial memNil rfl rfl rfl rfl rfl rfl ?_
 refine s_of (st_geq rfl rfl rfl) rfl rfl rfl rfl ?_
 refine m2 ?_
 refine rt_nil ?_
 refine tri_ret ?_
 have e0 := (some1 h); subst e0
 exact endY [] [] (rvC (resTmp rfl) rvN) trivial trivial rfl rfl rfl rfl (.free rfl)

/- impl.LabelOk -/
def inv_i_LabelOk_2 (p0 : ByteArray) (v1_0 : Int) (j2_0 : Bool) : St := mkT 44 [(0, .sc (.string p0)), (6, .sc (.int .i64 (p0.size : Int))), (7, .sc (.int .i64 v1_0)), (34, .sc (.bool j2_0))] []
def inv_i_LabelOk_1 (p0 : ByteArray) (v1_0 : Int) : St := mkT 44 [(0, .sc (.string p0)), (6, .sc (.int .i64 (p0.size : Int))), (7, .sc (.int .i64 v1_0))] []
def inv_i_LabelOk_0 (p0 : ByteArray) : St := mkT 44 [(0, .sc (.string p0))] []
set_option maxRecDepth 4000 in
set_option maxHeartbeats 800000 in
theorem wi_LabelOk (p0 : ByteArray) (r0 : Bool) (h : i_LabelOk p0 = some r0) : Runs Tryz.prog 114 [.sc (.string p0)] [] (.sc (.bool r0)) [] := by
 unfold i_LabelOk at h
 refine runsR [.tmp 2] Tryz.func114 rfl rfl rfl rfl ?_
 rw [Tryz.ntmps114]
 refine tri_sr ?_
 refine s_mv (.inr rfl) (v := .sc (.bool false)) rfl rfl rfl rfl ?_
 refine rt_nil ?_
 refine tri_cutI (ι := { p : Unit // i_LabelOk_j0 p0 = some r0 }) (fun p => inv_i_LabelOk_0 p0) ?_ ?_
 ·skip
  refine tri_sr ?_
  refine m1 ?_
  refine s_of (st_lenS rfl rfl iss9) rfl rfl rfl rfl ?_
  refine s_mv (.inl rfl) (v := .sc (.int .i64 0)) rfl rfl rfl rfl ?_
  refine rt_nil ?_
  refine tri_block ?_
  refine tri_loop (ι := { p : Nat × Int // i_LabelOk_l1 p0 p.1 p.2 = some r0 }) (fun p => inv_i_LabelOk_1 p0 p.1.2) (fun p => p.1.1) ⟨(fuel0, 0), h⟩ ?_ ?_
  ·skip
   refine entX [] [] trivial trivial rfl rfl ?_
   exact ⟨(.free rfl), (.free rfl), (.free rfl), trivial⟩
  ·rintro ⟨⟨f1, v1_0⟩, h⟩
   replace h : i_LabelOk_l1 p0 f1 v1_0 = some r0 := h
   cases f1 with
   | zero => cases h
   | succ f1 =>
   rw [i_LabelOk_l1] at h
   show Tri _ _ _ (inv_i_LabelOk_1 p0 v1_0)
   refine tri_sr ?_
   refine s_of (st_lss rfl rfl rfl) rfl rfl rfl rfl ?_
   refine rt_nil ?_
   refine tri_seq ?_
   refine tri_cond rfl (fun c1 => ?_) (fun c1 => ?_)
   ·replace h := cond_t h c1
    refine tri_skip ?_
    refine tri_seq ?_
    refine tri_block ?_
    refine tri_sr ?_
    refine m1 ?_
    refine m2 ?_
    refine rt_nil ?_
    refine tri_sr ?_
    refine m1 ?_
    refine m1 ?_
    refine bnd1_elim h fun x2 q3 h => ?_
    refine s_idxS rfl rfl rfl iss9 q3 rfl rfl rfl ?_
    refine m2 ?_
    refine rt_nil ?_
    refine tri_cutI (ι := { p : Bool // i_LabelOk_j2 v1_0 (i_LabelOk_l1 p0 f1) p = some r0 }) (fun p => inv_i_LabelOk_2 p0 v1_0 p.1) ?_ ?_
    ·skip
     refine tri_region ?_
     refine m1 ?_
     refine s_of (st_lss rfl rfl rfl) rfl rfl rfl rfl ?_
     refine m1 ?_
     refine s_split (t := 15) rfl (fun b4 => ?_) (fun b4 => ?_)
     ·replace h := cond_t h b4
      refine s_skip rfl rfl rfl ?_
      refine s_skip rfl rfl rfl ?_
      refine s_pickT rfl rfl (v := .sc (.bool true)) rfl rfl rfl rfl ?_
      refine m1 ?_
      refine m1 ?_
      refine s_of (st_lss rfl rfl rfl) rfl rfl rfl rfl ?_
      refine m1 ?_
      refine s_split (t := 22) rfl (fun b5 => ?_) (fun b5 => ?_)
      ·replace h := cond_t h b5
       refine s_skip rfl rfl rfl ?_
       refine s_skip rfl rfl rfl ?_
       refine s_pickT rfl rfl (v := .sc (.bool true)) rfl rfl rfl rfl ?_
       refine s_pickT rfl rfl (by conv => lhs; whnf) rfl rfl rfl ?_
       refine m1 ?_
       refine m1 ?_
       refine s_of (st_neI rfl rfl rfl) rfl rfl rfl rfl ?_
       refine s_pickT rfl rfl (by conv => lhs; whnf) rfl rfl rfl ?_
       refine m1 ?_
       refine s_split (t := 31) rfl (fun b6 => ?_) (fun b6 => ?_)
       ·replace h := cond_t h b6
        refine m1 ?_
        refine s_of (st_neI rfl rfl rfl) rfl rfl rfl rfl ?_
        refine s_pickT rfl rfl (by conv => lhs; whnf) rfl rfl rfl ?_
        refine rt_nil ?_
        refine Exists.intro ⟨!decide (x2 = 95), h⟩ ?_
        refine entX [] [] trivial trivial rfl rfl ?_
        exact ⟨(.free rfl), (.free rfl), (.free rfl), (.free rfl), trivial⟩
       ·replace h := cond_f h b6
        refine s_skip rfl rfl rfl ?_
        refine s_skip rfl rfl rfl ?_
        refine s_pickF rfl rfl (v := .sc (.bool false)) rfl rfl rfl rfl ?_
        refine rt_nil ?_
        refine Exists.intro ⟨false, h⟩ ?_
        refine entX [] [] trivial trivial rfl rfl ?_
        exact ⟨(.free rfl), (.free rfl), (.free rfl), (.free rfl), trivial⟩
      ·replace h := cond_f h b5
       refine m1 ?_
       refine s_of (st_gtr rfl rfl rfl) rfl rfl rfl rfl ?_
       refine s_pickF rfl rfl (by conv => lhs; whnf) rfl rfl rfl ?_
       refine s_pickT rfl rfl (by conv => lhs; whnf) rfl rfl rfl ?_
       refine m1 ?_
       refine s_split (t := 27) rfl (fun b7 => ?_) (fun b7 => ?_)
       ·replace h := cond_t h b7
        refine m1 ?_
        refine s_of (st_neI rfl rfl rfl) rfl rfl rfl rfl ?_
        refine s_pickT rfl rfl (by conv => lhs; whnf) rfl rfl rfl ?_
        refine m1 ?_
        refine s_split (t := 31) rfl (fun b8 => ?_) (fun b8 => ?_)
        ·replace h := cond_t h b8
         refine m1 ?_
         refine s_of (st_neI rfl rfl rfl) rfl rfl rfl rfl ?_
         refine s_pickT rfl rfl (by conv => lhs; whnf) rfl rfl rfl ?_
         refine rt_nil ?_
         refine Exists.intro ⟨!decide (x2 = 95), h⟩ ?_
         refine entX [] [] trivial trivial rfl rfl ?_
         exact ⟨(.free rfl), (.free rfl), (.free rfl), (.free rfl), trivial⟩
        ·replace h := cond_f h b8
         refine s_skip rfl rfl rfl ?_
         refine s_skip rfl rfl rfl ?_
         refine s_pickF rfl rfl (v := .sc (.bool false)) rfl rfl rfl rfl ?_
         refine rt_nil ?_
         refine Exists.intro ⟨false, h⟩ ?_
         refine entX [] [] trivial trivial rfl rfl ?_
         exact ⟨(.free rfl), (.free rfl), (.free rfl), (.free rfl), trivial⟩
       ·replace h := cond_f h b7
        refine s_skip rfl rfl rfl ?_
        refine s_skip rfl rfl rfl ?_
        refine s_pickF rfl rfl (v := .sc (.bool false)) rfl rfl rfl rfl ?_
        refine m1 ?_
        refine s_skip rfl rfl rfl ?_
        refine s_skip rfl rfl rfl ?_
        refine s_pickF rfl rfl (v := .sc (.bool false)) rfl rfl rfl rfl ?_
        refine rt_nil ?_
        refine Exists.intro ⟨false, h⟩ ?_
        refine entX [] [] trivial trivial rfl rfl ?_
        exact ⟨(.free rfl), (.free rfl), (.free rfl), (.free rfl), trivial⟩
     ·replace h := cond_f h b4
      refine m1 ?_
      refine s_of (st_gtr rfl rfl rfl) rfl rfl rfl rfl ?_
      refine s_pickF rfl rfl (by conv => lhs; whnf) rfl rfl rfl ?_
      refine m1 ?_
      refine s_split (t := 19) rfl (fun b9 => ?_) (fun b9 => ?_)
      ·replace h := cond_t h b9
       refine m1 ?_
       refine s_of (st_lss rfl rfl rfl) rfl rfl rfl rfl ?_
       refine m1 ?_
       refine s_split (t := 22) rfl (fun b10 => ?_) (fun b10 => ?_)
       ·replace h := cond_t h b10
        refine s_skip rfl rfl rfl ?_
        refine s_skip rfl rfl rfl ?_
        refine s_pickT rfl rfl (v := .sc (.bool true)) rfl rfl rfl rfl ?_
        refine s_pickT rfl rfl (by conv => lhs; whnf) rfl rfl rfl ?_
        refine m1 ?_
        refine m1 ?_
        refine s_of (st_neI rfl rfl rfl) rfl rfl rfl rfl ?_
        refine s_pickT rfl rfl (by conv => lhs; whnf) rfl rfl rfl ?_
        refine m1 ?_
        refine s_split (t := 31) rfl (fun b11 => ?_) (fun b11 => ?_)
        ·replace h := cond_t h b11
         refine m1 ?_
         refine s_of (st_neI rfl rfl rfl) rfl rfl rfl rfl ?_
         refine s_pickT rfl rfl (by conv => lhs; whnf) rfl rfl rfl ?_
         refine rt_nil ?_
         refine Exists.intro ⟨!decide (x2 = 95), h⟩ ?_
         refine entX [] [] trivial trivial rfl rfl ?_
         exact ⟨(.free rfl), (.free rfl), (.free rfl), (.free rfl), trivial⟩
        ·replace h := cond_f h b11
         refine s_skip rfl rfl rfl ?_
         refine s_skip rfl rfl rfl ?_
         refine s_pickF rfl rfl (v := .sc (.bool false)) rfl rfl rfl rfl ?_
         refine rt_nil ?_
         refine Exists.intro ⟨false, h⟩ ?_
         refine entX [] [] trivial trivial rfl rfl ?_
         exact ⟨(.free rfl), (.free rfl), (.free rfl), (.free rfl), trivial⟩
       ·replace h := cond_f h b10
        refine m1 ?_
        refine s_of (st_gtr rfl rfl rfl) rfl rfl rfl rfl ?_
        refine s_pickF rfl rfl (by conv => lhs; whnf) rfl rfl rfl ?_
        refine s_pickT rfl rfl (by conv => lhs; whnf) rfl rfl rfl ?_
        refine m1 ?_
        refine s_split (t := 27) rfl (fun b12 => ?_) (fun b12 => ?_)
        ·replace h := cond_t h b12
         refine m1 ?_
         refine s_of (st_neI rfl rfl rfl) rfl rfl rfl rfl ?_
         refine s_pickT rfl rfl (by conv => lhs; whnf) rfl rfl rfl ?_
         refine m1 ?_
         refine s_split (t := 31) rfl (fun b13 => ?_) (fun b13 => ?_)
         ·replace h := cond_t h b13
          refine m1 ?_
          refine s_of (st_neI rfl rfl rfl) rfl rfl rfl rfl ?_
          refine s_pickT rfl rfl (by conv => lhs; whnf) rfl rfl rfl ?_
          refine rt_nil ?_
          refine Exists.intro ⟨!decide (x2 = 95), h⟩ ?_
          refine entX [] [] trivial trivial rfl rfl ?_
          exact ⟨(.free rfl), (.free rfl), (.free rfl), (.free rfl), trivial⟩
         ·replace h := cond_f h b13
          refine s_skip rfl rfl rfl ?_
          refine s_skip rfl rfl rfl ?_
          refine s_pickF rfl rfl (v := .sc (.bool false)) rfl rfl rfl rfl ?_
          refine rt_nil ?_
          refine Exists.intro ⟨false, h⟩ ?_
          refine entX [] [] trivial trivial rfl rfl ?_
          exact ⟨(.free rfl), (.free rfl), (.free rfl), (.free rfl), trivial⟩
        ·replace h := cond_f h b12
         refine s_skip rfl rfl rfl ?_
         refine s_skip rfl rfl rfl ?_
         refine s_pickF rfl rfl (v := .sc (.bool false)) rfl rfl rfl rfl ?_
         refine m1 ?_
         refine s_skip rfl rfl rfl ?_
         refine s_skip rfl rfl rfl ?_
         refine s_pickF rfl rfl (v := .sc (.bool false)) rfl rfl rfl rfl ?_
         refine rt_nil ?_
         refine Exists.intro ⟨false, h⟩ ?_
         refine entX [] [] trivial trivial rfl rfl ?_
         exact ⟨(.free rfl), (.free rfl), (.free rfl), (.free rfl), trivial⟩
      ·replace h := cond_f h b9
       refine s_skip rfl rfl rfl ?_
       refine s_skip rfl rfl rfl ?_
       refine s_skip rfl rfl rfl ?_
       refine s_skip rfl rfl rfl ?_
       refine s_skip rfl rfl rfl ?_
       refine s_skip rfl rfl rfl ?_
       refine s_pickF rfl rfl (v := .sc (.bool false)) rfl rfl rfl rfl ?_
       refine m1 ?_
       refine s_skip rfl rfl rfl ?_
       refine s_skip rfl rfl rfl ?_
       refine s_pickF rfl rfl (v := .sc (.bool false)) rfl rfl rfl rfl ?_
       refine m1 ?_
       refine s_skip rfl rfl rfl ?_
       refine s_skip rfl rfl rfl ?_
       refine s_pickF rfl rfl (v := .sc (.bool false)) rfl rfl rfl rfl ?_
       refine rt_nil ?_
       refine Exists.intro ⟨false, h⟩ ?_
       refine entX [] [] trivial trivial rfl rfl ?_
       exact ⟨(.free rfl), (.free rfl), (.free rfl), (.free rfl), trivial⟩
    ·rintro ⟨j2_0, h⟩
     replace h : i_LabelOk_j2 v1_0 (i_LabelOk_l1 p0 f1) j2_0 = some r0 := h
     unfold i_LabelOk_j2 at h
     show Tri _ _ _ (inv_i_LabelOk_2 p0 v1_0 j2_0)
     refine tri_cond rfl (fun c4 => ?_) (fun c4 => ?_)
     ·replace h := cond_t h c4
      refine tri_sr ?_
      refine s_mv (.inr rfl) (v := .sc (.bool false)) rfl rfl rfl rfl ?_
      refine rt_nil ?_
      refine tri_ret ?_
      have e0 := (some1 h); subst e0
      exact endY [] [] (rvC (resTmp rfl) rvN) trivial trivial rfl rfl rfl rfl (.free rfl)
     ·replace h := cond_f h c4
      refine tri_skip ?_
      refine tri_region ?_
      refine grd_elim h fun g5 h => ?_
      refine s_addI rfl rfl rfl rfl g5 rfl rfl rfl ?_
      refine m1 ?_
      refine rt_nil ?_
      refine Exists.intro ⟨(f1, v1_0 + 1), h⟩ (And.intro (Nat.lt_succ_self _) ?_)
      refine entX [] [] trivial trivial rfl rfl ?_
      exact ⟨(.free rfl), (.free rfl), (.free rfl), trivial⟩
   ·replace h := cond_f h c1
    refine tri_exit ?_
    refine Exists.intro ⟨(), h⟩ ?_
    refine entX [] [] trivial trivial rfl rfl ?_
    exact ⟨(.free rfl), trivial⟩
 ·rintro ⟨u, h⟩
  replace h : i_LabelOk_j0 p0 = some r0 := h
  unfold i_LabelOk_j0 at h
  show Tri _ _ _ (inv_i_LabelOk_0 p0)
  refine tri_sr ?_
  refine m1 ?_
  refine s_of (st_lenS rfl rfl iss9) rfl rfl rfl rfl ?_
  refine s_of (st_geq rfl rfl rfl) rfl rfl rfl rfl ?_
  refine m1 ?_
  refine s_split (t := 39) rfl (fun b1 => ?_) (fun b1 => ?_)
  ·replace h := cond_t h b1
   refine m1 ?_
   refine s_of (st_lenS rfl rfl iss9) rfl rfl rfl rfl ?_
   refine s_of (st_leq rfl rfl rfl) rfl rfl rfl rfl ?_
   refine s_pickT rfl rfl (by conv => lhs; whnf) rfl rfl rfl ?_
   refine m2 ?_
   refine rt_nil ?_
   refine tri_ret ?_
   have e0 := (some1 h); subst e0
   exact endY [] [] (rvC (resTmp rfl) rvN) trivial trivial rfl rfl rfl rfl (.free rfl)
  ·replace h := cond_f h b1
   refine s_skip rfl rfl rfl ?_
   refine s_skip rfl rfl rfl ?_
   refine s_skip rfl rfl rfl ?_
   refine s_pickF rfl rfl (v := .sc (.bool false)) rfl rfl rfl rfl ?_
   refine m2 ?_
   refine rt_nil ?_
   refine tri_ret ?_
   have e0 := (some1 h); subst e0
   exact endY [] [] (rvC (resTmp rfl) rvN) trivial trivial rfl rfl rfl rfl (.free rfl)

/- impl.NameOk$1 -/

set_option maxRecDepth 4000 in
set_option maxHeartbeats 800000 in
theorem wi_NameOk_1 (p0 : ByteArray) (r0 : Bool) (h : i_NameOk_1 p0 = some r0) : Runs Tryz.prog 113 [.sc (.string p0)] [] (.sc (.bool r0)) [] := by
 unfold i_NameOk_1 at h
 refine runsR [.tmp 2] Tryz.func113 rfl rfl rfl rfl ?_
 rw [Tryz.ntmps113]
 refine tri_sr ?_
 refine s_mv (.inr rfl) (v := .sc (.bool false)) rfl rfl rfl rfl ?_
 refine rt_nil ?_
 refine tri_sr ?_
 refine m1 ?_
 refine bnd1_elim h fun x1 q2 h => ?_
 refine s_callN (kb := []) (ns := []) (v := .sc (.bool x1)) rfl rfl cl114 (wi_LabelOk p0 x1 q2) rfl (.cons (.free rfl) .nil) trivial memNil .nil memNil rfl trivial memNil rfl rfl rfl rfl rfl rfl ?_
 refine s_of (st_not rfl rfl) rfl rfl rfl rfl ?_
 refine m2 ?_
 refine rt_nil ?_
 refine tri_ret ?_
 have e0 := (some1 h); subst e0
 exact endY [] [] (rvC (resTmp rfl) rvN) trivial trivial rfl rfl rfl rfl (.free rfl)

/- impl.NameOk -/

set_option maxRecDepth 4000 in
set_option maxHeartbeats 800000 in
theorem wi_NameOk (p0 : ByteArray) (r0 : Bool) (h : i_NameOk p0 = some r0) : Runs Tryz.prog 75 [.sc (.string p0)] [] (.sc (.bool r0)) [] := by
 unfold i_NameOk at h
 refine runsR [.tmp 2] Tryz.func75 rfl rfl rfl rfl ?_
 rw [Tryz.ntmps75]
 refine tri_sr ?_
 refine s_mv (.inr rfl) (v := .sc (.bool false)) rfl rfl rfl rfl ?_
 refine rt_nil ?_
 refine tri_sr ?_
 refine m1 ?_
 refine bnd1_elim h fun x1 q2 h => ?_
 refine s_callN (kb := []) (ns := []) (v := .ref (5, 0) 0 x1.length) rfl rfl cl76 (wi_Labels p0 x1 q2) rfl (.cons (.free rfl) .nil) trivial memNil .nil memNil rfl ⟨(allSc_map strV_sc), trivial⟩ memNil rfl (by simp only [V.mat, V.mat1, V.mat0, matL, matT, List.length_map] <;> rfl) rfl rfl rfl rfl ?_
 refine m2 ?_
 refine rt_nil ?_
 refine tri_sr ?_
 refine m1 ?_
 refine s_of (st_lenS rfl rfl iss9) rfl rfl rfl rfl ?_
 refine s_of (st_leq rfl rfl rfl) rfl rfl rfl rfl ?_
 refine m1 ?_
 refine s_split (t := 9) rfl (fun b3 => ?_) (fun b3 => ?_)
 ·replace h := cond_t h b3
  refine m1 ?_
  refine s_len (m := x1.length) rfl sl91 rfl rfl rfl rfl ?_
  refine s_of (st_leq rfl rfl rfl) rfl rfl rfl rfl ?_
  refine s_pickT rfl rfl (by conv => lhs; whnf) rfl rfl rfl ?_
  refine m1 ?_
  refine s_split (t := 14) rfl (fun b4 => ?_) (fun b4 => ?_)
  ·replace h := cond_t h b4
   refine m1 ?_
   refine bnd1_elim h fun x5 q6 h => ?_
   refine s_callN (kb := [(5, 0)]) (ns := []) (v := .sc (.bool x5)) rfl rfl cl112 (wslices_ContainsFunc_string x1 113 [] rfl cl113 (fun a0 => i_NameOk_1 a0) (fun a0 v0 hv => wi_NameOk_1 a0 v0 hv) x5 q6) rfl (.cons (lendL rfl (.head _) rfl strV_free strV_len) (.cons relFn0 .nil)) trivial memNil .nil (fun _ _ => List.not_mem_nil) rfl trivial memNil rfl rfl rfl rfl rfl rfl ?_
   refine s_of (st_not rfl rfl) rfl rfl rfl rfl ?_
   refine s_pickT rfl rfl (by conv => lhs; whnf) rfl rfl rfl ?_
   refine m2 ?_
   refine rt_nil ?_
   refine tri_ret ?_
   have e0 := (some1 h); subst e0
   exact endY [] [] (rvC (resTmp rfl) rvN) trivial trivial rfl rfl rfl rfl (.free rfl)
  ·replace h := cond_f h b4
   refine s_skip rfl rfl rfl ?_
   refine s_skip rfl rfl rfl ?_
   refine s_skip rfl rfl rfl ?_
   refine s_pickF rfl rfl (v := .sc (.bool false)) rfl rfl rfl rfl ?_
   refine m2 ?_
   refine rt_nil ?_
   refine tri_ret ?_
   have e0 := (some1 h); subst e0
   exact endY [] [] (rvC (resTmp rfl) rvN) trivial trivial rfl rfl rfl rfl (.free rfl)
 ·replace h := cond_f h b3
  refine s_skip rfl rfl rfl ?_
  refine s_skip rfl rfl rfl ?_
  refine s_skip rfl rfl rfl ?_
  refine s_pickF rfl rfl (v := .sc (.bool false)) rfl rfl rfl rfl ?_
  refine m1 ?_
  refine s_skip rfl rfl rfl ?_
  refine s_skip rfl rfl rfl ?_
  refine s_skip rfl rfl rfl ?_
  refine s_pickF rfl rfl (v := .sc (.bool false)) rfl rfl rfl rfl ?_
  refine m2 ?_
  refine rt_nil ?_
  refine tri_ret ?_
  have e0 := (some1 h); subst e0
  exact endY [] [] (rvC (resTmp rfl) rvN) trivial trivial rfl rfl rfl rfl (.free rfl)

/- impl.TypeText -/

set_option maxRecDepth 4000 in
set_option maxHeartbeats 800000 in
theorem wi_TypeText (p0 : Int) (r0 : ByteArray) (h : i_TypeText p0 = some r0) : Runs Tryz.prog 129 [.sc (.int .i64 p0)] [] (.sc (.string r0)) [] := by
 unfold i_TypeText at h
 refine runsR [.tmp 2] Tryz.func129 rfl rfl rfl rfl ?_
 rw [Tryz.ntmps129]
 refine tri_sr ?_
 refine s_mv (.inr rfl) (v := .sc (.string (⟨#[]⟩ : ByteArray))) rfl rfl rfl rfl ?_
 refine rt_nil ?_
 refine tri_seq ?_
 refine tri_sr ?_
 refine m1 ?_
 refine rt_nil ?_
 refine tri_block ?_
 refine tri_sr ?_
 refine s_of (st_eqI rfl rfl rfl) rfl rfl rfl rfl ?_
 refine m2 ?_
 refine rt_nil ?_
 refine tri_cond rfl (fun c1 => ?_) (fun c1 => ?_)
 ·replace h := cond_t h c1
  refine tri_sr ?_
  refine s_mv (.inr rfl) (v := .sc (.string (⟨#[97, 100, 100, 114]⟩ : ByteArray))) rfl rfl rfl rfl ?_
  refine rt_nil ?_
  refine tri_ret ?_
  have e0 := (some1 h); subst e0
  exact endY [] [] (rvC (resTmp rfl) rvN) trivial trivial rfl rfl rfl rfl (.free rfl)
 ·replace h := cond_f h c1
  refine tri_sr ?_
  refine s_of (st_eqI rfl rfl rfl) rfl rfl rfl rfl ?_
  refine m2 ?_
  refine rt_nil ?_
  refine tri_cond rfl (fun c2 => ?_) (fun c2 => ?_)
  ·replace h := cond_t h c2
   refine tri_sr ?_
   refine s_mv (.inr rfl) (v := .sc (.string (⟨#[115, 101, 114, 118, 101, 114]⟩ : ByteArray))) rfl rfl rfl rfl ?_
   refine rt_nil ?_
   refine tri_ret ?_
   have e0 := (some1 h); subst e0
   exact endY [] [] (rvC (resTmp rfl) rvN) trivial trivial rfl rfl rfl rfl (.free rfl)
  ·replace h := cond_f h c2
   refine tri_sr ?_
   refine s_of (st_eqI rfl rfl rfl) rfl rfl rfl rfl ?_
   refine m2 ?_
   refine rt_nil ?_
   refine tri_cond rfl (fun c3 => ?_) (fun c3 => ?_)
   ·replace h := cond_t h c3
    refine tri_sr ?_
    refine s_mv (.inr rfl) (v := .sc (.string (⟨#[97, 108, 105, 97, 115]⟩ : ByteArray))) rfl rfl rfl rfl ?_
    refine rt_nil ?_
    refine tri_ret ?_
    have e0 := (some1 h); subst e0
    exact endY [] [] (rvC (resTmp rfl) rvN) trivial trivial rfl rfl rfl rfl (.free rfl)
   ·replace h := cond_f h c3
    refine tri_sr ?_
    refine s_of (st_eqI rfl rfl rfl) rfl rfl rfl rfl ?_
    refine m2 ?_
    refine rt_nil ?_
    refine tri_cond rfl (fun c4 => ?_) (fun c4 => ?_)
    ·replace h := cond_t h c4
     refine tri_sr ?_
     refine s_mv (.inr rfl) (v := .sc (.string (⟨#[115, 116, 97, 114, 116]⟩ : ByteArray))) rfl rfl rfl rfl ?_
     refine rt_nil ?_
     refine tri_ret ?_
     have e0 := (some1 h); subst e0
     exact endY [] [] (rvC (resTmp rfl) rvN) trivial trivial rfl rfl rfl rfl (.free rfl)
    ·replace h := cond_f h c4
     refine tri_sr ?_
     refine s_of (st_eqI rfl rfl rfl) rfl rfl rfl rfl ?_
     refine m2 ?_
     refine rt_nil ?_
     refine tri_cond rfl (fun c5 => ?_) (fun c5 => ?_)
     ·replace h := cond_t h c5
      refine tri_sr ?_
      refine s_mv (.inr rfl) (v := .sc (.string (⟨#[116, 101, 120, 116]⟩ : ByteArray))) rfl rfl rfl rfl ?_
      refine rt_nil ?_
      refine tri_ret ?_
      have e0 := (some1 h); subst e0
      exact endY [] [] (rvC (resTmp rfl) rvN) trivial trivial rfl rfl rfl rfl (.free rfl)
     ·replace h := cond_f h c5
      refine tri_skip ?_
      refine tri_sr ?_
      refine s_mv (.inr rfl) (v := .sc (.string (⟨#[]⟩ : ByteArray))) rfl rfl rfl rfl ?_
      refine rt_nil ?_
      refine tri_ret ?_
      have e0 := (some1 h); subst e0
      exact endY [] [] (rvC (resTmp rfl) rvN) trivial trivial rfl rfl rfl rfl (.free rfl)

/- impl.TypeOk -/

set_option maxRecDepth 4000 in
set_option maxHeartbeats 800000 in
theorem wi_TypeOk (p0 : Int) (r0 : Bool) (h : i_TypeOk p0 = some r0) : Runs Tryz.prog 95 [.sc (.int .i64 p0)] [] (.sc (.bool r0)) [] := by
 unfold i_TypeOk at h
 refine runsR [.tmp 2] Tryz.func95 rfl rfl rfl rfl ?_
 rw [Tryz.ntmps95]
 refine tri_sr ?_
 refine s_mv (.inr rfl) (v := .sc (.bool false)) rfl rfl rfl rfl ?_
 refine rt_nil ?_
 refine tri_sr ?_
 refine m1 ?_
 refine bnd1_elim h fun x1 q2 h => ?_
 refine s_callN (kb := []) (ns := []) (v := .sc (.string x1)) rfl rfl cl129 (wi_TypeText p0 x1 q2) rfl (.cons (.free rfl) .nil) trivial memNil .nil memNil rfl trivial memNil rfl rfl rfl rfl rfl rfl ?_
 refine s_of (st_neS rfl rfl rfl) rfl rfl rfl rfl ?_
 refine m2 ?_
 refine rt_nil ?_
 refine tri_ret ?_
 have e0 := (some1 h); subst e0
 exact endY [] [] (rvC (resTmp rfl) rvN) trivial trivial rfl rfl rfl rfl (.free rfl)

/- impl.QuestOk -/

set_option maxRecDepth 4000 in
set_option maxHeartbeats 800000 in
theorem wi_QuestOk (p0 : Quest) (r0 : Bool) (h : i_QuestOk p0 = some r0) : Runs Tryz.prog 55 [.agg (questV p0)] [] (.sc (.bool r0)) [] := by
 unfold i_QuestOk at h
 refine runsR [.tmp 2] Tryz.func55 rfl rfl rfl rfl ?_
 rw [Tryz.ntmps55]
 refine tri_sr ?_
 refine s_box rfl rfl rfl rfl rfl rfl rfl ?_
 refine s_mv (.inr rfl) (v := .sc (.bool false)) rfl rfl rfl rfl ?_
 refine rt_nil ?_
 refine tri_sr ?_
 refine s_fieldAddr rfl rfl fd25_0 rfl rfl rfl rfl ?_
 refine s_load rfl rfl rfl rfl ty9 rfl (.inr rfl) (by conv => lhs; whnf) rfl rfl rfl ?_
 refine bnd1_elim h fun x1 q2 h => ?_
 refine s_callN (kb := []) (ns := []) (v := .sc (.bool x1)) rfl rfl cl75 (wi_NameOk p0.name x1 q2) rfl (.cons (.free rfl) .nil) trivial memNil .nil memNil rfl trivial memNil rfl rfl rfl rfl rfl rfl ?_
 refine m1 ?_
 refine s_split (t := 6) rfl (fun b3 => ?_) (fun b3 => ?_)
 ·replace h := cond_t h b3
  refine s_fieldAddr rfl rfl fd25_1 rfl rfl rfl rfl ?_
  refine s_load rfl rfl rfl rfl ty3 rfl (.inr rfl) (by conv => lhs; whnf) rfl rfl rfl ?_
  refine bnd1_elim h fun x4 q5 h => ?_
  refine s_callN (kb := []) (ns := []) (v := .sc (.bool x4)) rfl rfl cl95 (wi_TypeOk p0.ty x4 q5) rfl (.cons (.free rfl) .nil) trivial memNil .nil memNil rfl trivial memNil rfl rfl rfl rfl rfl rfl ?_
  refine s_pickT rfl rfl (by conv => lhs; whnf) rfl rfl rfl ?_
  refine m2 ?_
  refine rt_nil ?_
  refine tri_ret ?_
  have e0 := (some1 h); subst e0
  exact endY [] [] (rvC (resTmp rfl) rvN) trivial trivial rfl rfl rfl rfl (.free rfl)
 ·replace h := cond_f h b3
  refine s_skip rfl rfl rfl ?_
  refine s_skip rfl rfl rfl ?_
  refine s_skip rfl rfl rfl ?_
  refine s_pickF rfl rfl (v := .sc (.bool false)) rfl rfl rfl rfl ?_
  refine m2 ?_
  refine rt_nil ?_
  refine tri_ret ?_
  have e0 := (some1 h); subst e0
  exact endY [] [] (rvC (resTmp rfl) rvN) trivial trivial rfl rfl rfl rfl (.free rfl)

/- impl.Record] -/
def inv_slices_IndexFunc_Record_0 (p0 : List Rec) (fi1 : FuncId) (cp1 : List V) (v0_0 : Nat) : St := mkT 19 [(0, .lst 6 (List.map recV p0)), (1, .fn fi1 cp1), (7, .sc (.int .i64 (p0.length : Int))), (8, .sc (.int .i64 (v0_0 : Int)))] []
set_option maxRecDepth 4000 in
set_option maxHeartbeats 800000 in
theorem wslices_IndexFunc_Record (p0 : List Rec) (fi1 : FuncId) (cp1 : List V) (hf1 : cp1.all (·.free) = true) (hb1 : callable Tryz.prog fi1 = true) (p1 : Rec → Option Bool) (hg1 : ∀ (z0 : Rec) v, p1 z0 = some v → Runs Tryz.prog fi1 ([.agg (recV z0)] ++ cp1) [] (.sc (.bool v)) []) (r0 : Int) (h : slices_IndexFunc_Record p0 p1 = some r0) : Runs Tryz.prog 131 [.lst 6 (List.map recV p0), .fn fi1 cp1] [] (.sc (.int .i64 r0)) [] := by
 unfold slices_IndexFunc_Record at h
 refine runsR [.tmp 4] Tryz.func131 rfl rfl rfl rfl ?_
 rw [Tryz.ntmps131]
 refine tri_sr ?_
 refine s_mv (.inr rfl) (v := .sc (.int .i64 0)) rfl rfl rfl rfl ?_
 refine rt_nil ?_
 refine tri_seq ?_
 refine tri_sr ?_
 refine m1 ?_
 refine s_lenL rfl sl26 rfl rfl rfl rfl ?_
 refine s_mv (.inl rfl) (v := .sc (.int .i64 0)) rfl rfl rfl rfl ?_
 refine rt_nil ?_
 refine tri_block ?_
 refine tri_lstM 0 rfl (fun hl0 => ?_)
 refine tri_loop (ι := { p : (List Rec) × Nat // p0.drop p.2 = p.1 ∧ slices_IndexFunc_Record_l0 p1 p.1 p.2 = some r0 }) (fun p => inv_slices_IndexFunc_Record_0 p0 fi1 cp1 p.1.2) (fun p => p.1.1.length) ⟨(p0, 0), rfl, h⟩ ?_ ?_
 ·skip
  refine entX [] [] trivial trivial rfl rfl ?_
  exact ⟨(.free rfl), (cvFn hf1), (.free rfl), (.free rfl), trivial⟩
 ·rintro ⟨⟨lrs0, v0_0⟩, hd0, h⟩
  replace hd0 : p0.drop v0_0 = lrs0 := hd0
  replace h : slices_IndexFunc_Record_l0 p1 lrs0 v0_0 = some r0 := h
  show Tri _ _ _ (inv_slices_IndexFunc_Record_0 p0 fi1 cp1 v0_0)
  refine tri_sr ?_
  refine s_of (st_lss rfl rfl rfl) rfl rfl rfl rfl ?_
  refine rt_nil ?_
  refine tri_seq ?_
  refine tri_cond rfl (fun c1 => ?_) (fun c1 => ?_)
  ·refine drop_elim hd0 c1 fun e0 rs0 he hx0 hn0 => ?_
   subst he
   rw [slices_IndexFunc_Record_l0] at h
   refine tri_skip ?_
   refine tri_seq ?_
   refine tri_block ?_
   refine tri_sr ?_
   refine m1 ?_
   refine m2 ?_
   refine rt_nil ?_
   refine tri_sr ?_
   refine m1 ?_
   refine m1 ?_
   refine m1 ?_
   refine s_indexF (i := v0_0) rfl rfl rfl sl26 (get_ltM hx0) rfl rfl rfl ?_
   refine s_loadFR rfl rfl (rowG hx0) ty87 rfl rfl rfl ?_
   refine bnd1_elim h fun x2 q3 h => ?_
   refine s_callN (kb := []) (ns := []) (v := .sc (.bool x2)) rfl rfl hb1 (hg1 e0 x2 q3) rfl (.cons (relAgg rfl) (argsFree hf1)) trivial memNil .nil memNil rfl trivial memNil rfl rfl rfl rfl rfl rfl ?_
   refine rt_nil ?_
   refine tri_cond rfl (fun c4 => ?_) (fun c4 => ?_)
   ·replace h := cond_t h c4
    refine tri_sr ?_
    refine m1 ?_
    refine m2 ?_
    refine rt_nil ?_
    refine tri_ret ?_
    have e0 := (some1 h); subst e0
    exact endY [] [] (rvC (resTmp rfl) rvN) trivial trivial rfl rfl rfl rfl (.free rfl)
   ·replace h := cond_f h c4
    refine tri_skip ?_
    refine tri_region ?_
    refine s_inc (a := v0_0) (b := 1) rfl rfl rfl rfl (by have := get_lt hx0; have := hl0; omega) rfl rfl rfl ?_
    refine m1 ?_
    refine rt_nil ?_
    refine Exists.intro ⟨(rs0, (v0_0 + 1)), hn0, h⟩ (And.intro (Nat.lt_succ_self _) ?_)
    refine entX [] [] trivial trivial rfl rfl ?_
    exact ⟨(.free rfl), (cvFn hf1), (.free rfl), (.free rfl), trivial⟩
  ·have he := drop_f hd0 c1; subst he
   rw [slices_IndexFunc_Record_l0] at h
   refine tri_exit ?_
   refine tri_sr ?_
   refine s_mv (.inr rfl) (v := .sc (.int .i64 (-1))) rfl rfl rfl rfl ?_
   refine rt_nil ?_
   refine tri_ret ?_
   have e0 := (some1 h); subst e0
   exact endY [] [] (rvC (resTmp rfl) rvN) trivial trivial rfl rfl rfl rfl (.free rfl)

/- impl.Record] -/

set_option maxRecDepth 4000 in
set_option maxHeartbeats 800000 in
theorem wslices_ContainsFunc_Record (p0 : List Rec) (fi1 : FuncId) (cp1 : List V) (hf1 : cp1.all (·.free) = true) (hb1 : callable Tryz.prog fi1 = true) (p1 : Rec → Option Bool) (hg1 : ∀ (z0 : Rec) v, p1 z0 = some v → Runs Tryz.prog fi1 ([.agg (recV z0)] ++ cp1) [] (.sc (.bool v)) []) (r0 : Bool) (h : slices_ContainsFunc_Record p0 p1 = some r0) : Runs Tryz.prog 99 [.lst 6 (List.map recV p0), .fn fi1 cp1] [] (.sc (.bool r0)) [] := by
 unfold slices_ContainsFunc_Record at h
 refine runsR [.tmp 4] Tryz.func99 rfl rfl rfl rfl ?_
 rw [Tryz.ntmps99]
 refine tri_sr ?_
 refine s_mv (.inr rfl) (v := .sc (.bool false)) rfl rfl rfl rfl ?_
 refine rt_nil ?_
 refine tri_sr ?_
 refine m1 ?_
 refine m1 ?_
 refine bnd1_elim h fun x1 q2 h => ?_
 refine s_callN (kb := []) (ns := []) (v := .sc (.int .i64 x1)) rfl rfl cl131 (wslices_IndexFunc_Record p0 fi1 cp1 hf1 hb1 p1 hg1 x1 q2) rfl (.cons (.free rfl) (.cons (relFn hf1) .nil)) trivial memNil .nil memNil rfl trivial memNil rfl rfl rfl rfl rfl rfl ?_
 refine s_of (st_geq rfl rfl rfl) rfl rfl rfl rfl ?_
 refine m2 ?_
 refine rt_nil ?_
 refine tri_ret ?_
 have e0 := (some1 h); subst e0
 exact endY [] [] (rvC (resTmp rfl) rvN) trivial trivial rfl rfl rfl rfl (.free rfl)

/- impl.isTtl -/

set_option maxRecDepth 4000 in
set_option maxHeartbeats 800000 in
theorem wi_isTtl (p0 : Int) (r0 : Bool) (h : i_isTtl p0 = some r0) : Runs Tryz.prog 132 [.sc (.int .i64 p0)] [] (.sc (.bool r0)) [] := by
 unfold i_isTtl at h
 refine runsR [.tmp 2] Tryz.func132 rfl rfl rfl rfl ?_
 rw [Tryz.ntmps132]
 refine tri_sr ?_
 refine s_mv (.inr rfl) (v := .sc (.bool false)) rfl rfl rfl rfl ?_
 refine rt_nil ?_
 refine tri_sr ?_
 refine m1 ?_
 refine s_of (st_geq rfl rfl rfl) rfl rfl rfl rfl ?_
 refine m1 ?_
 refine s_split (t := 5) rfl (fun b1 => ?_) (fun b1 => ?_)
 ·replace h := cond_t h b1
  refine m1 ?_
  refine s_of (st_leq rfl rfl rfl) rfl rfl rfl rfl ?_
  refine s_pickT rfl rfl (by conv => lhs; whnf) rfl rfl rfl ?_
  refine m2 ?_
  refine rt_nil ?_
  refine tri_ret ?_
  have e0 := (some1 h); subst e0
  exact endY [] [] (rvC (resTmp rfl) rvN) trivial trivial rfl rfl rfl rfl (.free rfl)
 ·replace h := cond_f h b1
  refine s_skip rfl rfl rfl ?_
  refine s_skip rfl rfl rfl ?_
  refine s_pickF rfl rfl (v := .sc (.bool false)) rfl rfl rfl rfl ?_
  refine m2 ?_
  refine rt_nil ?_
  refine tri_ret ?_
  have e0 := (some1 h); subst e0
  exact endY [] [] (rvC (resTmp rfl) rvN) trivial trivial rfl rfl rfl rfl (.free rfl)

/- impl.isFour -/

set_option maxRecDepth 4000 in
set_option maxHeartbeats 800000 in
theorem wi_isFour (p0 : Int) (r0 : Bool) (h : i_isFour p0 = some r0) : Runs Tryz.prog 133 [.sc (.int .i64 p0)] [] (.sc (.bool r0)) [] := by
 unfold i_isFour at h
 refine runsR [.tmp 2] Tryz.func133 rfl rfl rfl rfl ?_
 rw [Tryz.ntmps133]
 refine tri_sr ?_
 refine s_mv (.inr rfl) (v := .sc (.bool false)) rfl rfl rfl rfl ?_
 refine rt_nil ?_
 refine tri_sr ?_
 refine m1 ?_
 refine s_of (st_geq rfl rfl rfl) rfl rfl rfl rfl ?_
 refine m1 ?_
 refine s_split (t := 5) rfl (fun b1 => ?_) (fun b1 => ?_)
 ·replace h := cond_t h b1
  refine m1 ?_
  refine s_of (st_leq rfl rfl rfl) rfl rfl rfl rfl ?_
  refine s_pickT rfl rfl (by conv => lhs; whnf) rfl rfl rfl ?_
  refine m2 ?_
  refine rt_nil ?_
  refine tri_ret ?_
  have e0 := (some1 h); subst e0
  exact endY [] [] (rvC (resTmp rfl) rvN) trivial trivial rfl rfl rfl rfl (.free rfl)
 ·replace h := cond_f h b1
  refine s_skip rfl rfl rfl ?_
  refine s_skip rfl rfl rfl ?_
  refine s_pickF rfl rfl (v := .sc (.bool false)) rfl rfl rfl rfl ?_
  refine m2 ?_
  refine rt_nil ?_
  refine tri_ret ?_
  have e0 := (some1 h); subst e0
  exact endY [] [] (rvC (resTmp rfl) rvN) trivial trivial rfl rfl rfl rfl (.free rfl)

/- impl.isText -/
def inv_i_isText_2 (p0 : ByteArray) (v1_0 : Int) (j2_0 : Bool) : St := mkT 23 [(0, .sc (.string p0)), (5, .sc (.int .i64 (p0.size : Int))), (6, .sc (.int .i64 v1_0)), (18, .sc (.bool j2_0))] []
def inv_i_isText_1 (p0 : ByteArray) (v1_0 : Int) : St := mkT 23 [(0, .sc (.string p0)), (5, .sc (.int .i64 (p0.size : Int))), (6, .sc (.int .i64 v1_0))] []
def inv_i_isText_0 (p0 : ByteArray) : St := mkT 23 [(0, .sc (.string p0))] []
set_option maxRecDepth 4000 in
set_option maxHeartbeats 800000 in
theorem wi_isText (p0 : ByteArray) (r0 : Bool) (h : i_isText p0 = some r0) : Runs Tryz.prog 134 [.sc (.string p0)] [] (.sc (.bool r0)) [] := by
 unfold i_isText at h
 refine runsR [.tmp 2] Tryz.func134 rfl rfl rfl rfl ?_
 rw [Tryz.ntmps134]
 refine tri_sr ?_
 refine s_mv (.inr rfl) (v := .sc (.bool false)) rfl rfl rfl rfl ?_
 refine rt_nil ?_
 refine tri_cutI (ι := { p : Unit // i_isText_j0 p0 = some r0 }) (fun p => inv_i_isText_0 p0) ?_ ?_
 ·skip
  refine tri_sr ?_
  refine m1 ?_
  refine s_of (st_lenS rfl rfl iss9) rfl rfl rfl rfl ?_
  refine s_mv (.inl rfl) (v := .sc (.int .i64 0)) rfl rfl rfl rfl ?_
  refine rt_nil ?_
  refine tri_block ?_
  refine tri_loop (ι := { p : Nat × Int // i_isText_l1 p0 p.1 p.2 = some r0 }) (fun p => inv_i_isText_1 p0 p.1.2) (fun p => p.1.1) ⟨(fuel0, 0), h⟩ ?_ ?_
  ·skip
   refine entX [] [] trivial trivial rfl rfl ?_
   exact ⟨(.free rfl), (.free rfl), (.free rfl), trivial⟩
  ·rintro ⟨⟨f1, v1_0⟩, h⟩
   replace h : i_isText_l1 p0 f1 v1_0 = some r0 := h
   cases f1 with
   | zero => cases h
   | succ f1 =>
   rw [i_isText_l1] at h
   show Tri _ _ _ (inv_i_isText_1 p0 v1_0)
   refine tri_sr ?_
   refine s_of (st_lss rfl rfl rfl) rfl rfl rfl rfl ?_
   refine rt_nil ?_
   refine tri_seq ?_
   refine tri_cond rfl (fun c1 => ?_) (fun c1 => ?_)
   ·replace h := cond_t h c1
    refine tri_skip ?_
    refine tri_seq ?_
    refine tri_block ?_
    refine tri_sr ?_
    refine m1 ?_
    refine m2 ?_
    refine rt_nil ?_
    refine tri_cutI (ι := { p : Bool // i_isText_j2 v1_0 (i_isText_l1 p0 f1) p = some r0 }) (fun p => inv_i_isText_2 p0 v1_0 p.1) ?_ ?_
    ·skip
     refine tri_region ?_
     refine m1 ?_
     refine m1 ?_
     refine bnd1_elim h fun x2 q3 h => ?_
     refine s_idxS rfl rfl rfl iss9 q3 rfl rfl rfl ?_
     refine s_of (st_lss rfl rfl rfl) rfl rfl rfl rfl ?_
     refine m1 ?_
     refine s_split (t := 13) rfl (fun b4 => ?_) (fun b4 => ?_)
     ·replace h := cond_t h b4
      refine s_skip rfl rfl rfl ?_
      refine s_skip rfl rfl rfl ?_
      refine s_skip rfl rfl rfl ?_
      refine s_skip rfl rfl rfl ?_
      refine s_pickT rfl rfl (v := .sc (.bool true)) rfl rfl rfl rfl ?_
      refine rt_nil ?_
      refine Exists.intro ⟨true, h⟩ ?_
      refine entX [] [] trivial trivial rfl rfl ?_
      exact ⟨(.free rfl), (.free rfl), (.free rfl), (.free rfl), trivial⟩
     ·replace h := cond_f h b4
      refine m1 ?_
      refine m1 ?_
      refine bnd1_elim h fun x5 q6 h => ?_
      refine s_idxS rfl rfl rfl iss9 q6 rfl rfl rfl ?_
      refine s_of (st_gtr rfl rfl rfl) rfl rfl rfl rfl ?_
      refine s_pickF rfl rfl (by conv => lhs; whnf) rfl rfl rfl ?_
      refine rt_nil ?_
      refine Exists.intro ⟨decide (126 < x5), h⟩ ?_
      refine entX [] [] trivial trivial rfl rfl ?_
      exact ⟨(.free rfl), (.free rfl), (.free rfl), (.free rfl), trivial⟩
    ·rintro ⟨j2_0, h⟩
     replace h : i_isText_j2 v1_0 (i_isText_l1 p0 f1) j2_0 = some r0 := h
     unfold i_isText_j2 at h
     show Tri _ _ _ (inv_i_isText_2 p0 v1_0 j2_0)
     refine tri_cond rfl (fun c2 => ?_) (fun c2 => ?_)
     ·replace h := cond_t h c2
      refine tri_sr ?_
      refine s_mv (.inr rfl) (v := .sc (.bool false)) rfl rfl rfl rfl ?_
      refine rt_nil ?_
      refine tri_ret ?_
      have e0 := (some1 h); subst e0
      exact endY [] [] (rvC (resTmp rfl) rvN) trivial trivial rfl rfl rfl rfl (.free rfl)
     ·replace h := cond_f h c2
      refine tri_skip ?_
      refine tri_region ?_
      refine grd_elim h fun g3 h => ?_
      refine s_addI rfl rfl rfl rfl g3 rfl rfl rfl ?_
      refine m1 ?_
      refine rt_nil ?_
      refine Exists.intro ⟨(f1, v1_0 + 1), h⟩ (And.intro (Nat.lt_succ_self _) ?_)
      refine entX [] [] trivial trivial rfl rfl ?_
      exact ⟨(.free rfl), (.free rfl), (.free rfl), trivial⟩
   ·replace h := cond_f h c1
    refine tri_exit ?_
    refine Exists.intro ⟨(), h⟩ ?_
    refine entX [] [] trivial trivial rfl rfl ?_
    exact ⟨(.free rfl), trivial⟩
 ·rintro ⟨u, h⟩
  replace h : i_isText_j0 p0 = some r0 := h
  unfold i_isText_j0 at h
  show Tri _ _ _ (inv_i_isText_0 p0)
  refine tri_sr ?_
  refine m1 ?_
  refine s_of (st_lenS rfl rfl iss9) rfl rfl rfl rfl ?_
  refine s_of (st_leq rfl rfl rfl) rfl rfl rfl rfl ?_
  refine m2 ?_
  refine rt_nil ?_
  refine tri_ret ?_
  have e0 := (some1 h); subst e0
  exact endY [] [] (rvC (resTmp rfl) rvN) trivial trivial rfl rfl rfl rfl (.free rfl)

/- impl.RecordOk -/
def inv_i_RecordOk_1 (p0 : Rec) (j1_0 : Bool) : St := mkT 76 [(1, .ptr (1, 0) 0 0), (14, .sc (.int .i64 p0.ty)), (30, .sc (.bool j1_0))] [((1, 0), some ⟨87, 6, [[.sc (.string p0.name), .sc (.int .i64 p0.ty), .sc (.int .i64 p0.ttl), .sc (.int .i64 p0.n), .sc (.string p0.host), .sc (.string p0.text)]], false, true⟩)]
def inv_i_RecordOk_0 (p0 : Rec) (j0_0 : Bool) : St := mkT 76 [(1, .ptr (1, 0) 0 0), (12, .sc (.bool j0_0))] [((1, 0), some ⟨87, 6, [[.sc (.string p0.name), .sc (.int .i64 p0.ty), .sc (.int .i64 p0.ttl), .sc (.int .i64 p0.n), .sc (.string p0.host), .sc (.string p0.text)]], false, true⟩)]
set_option maxRecDepth 4000 in
set_option maxHeartbeats 800000 in
theorem wi_RecordOk (p0 : Rec) (r0 : Bool) (h : i_RecordOk p0 = some r0) : Runs Tryz.prog 101 [.agg (recV p0)] [] (.sc (.bool r0)) [] := by
 unfold i_RecordOk at h
 refine runsR [.tmp 2] Tryz.func101 rfl rfl rfl rfl ?_
 rw [Tryz.ntmps101]
 refine tri_sr ?_
 refine s_box rfl rfl rfl rfl rfl rfl rfl ?_
 refine s_mv (.inr rfl) (v := .sc (.bool false)) rfl rfl rfl rfl ?_
 refine rt_nil ?_
 refine tri_seq ?_
 refine tri_cutI (ι := { p : Bool // i_RecordOk_j0 p0 p = some r0 }) (fun p => inv_i_RecordOk_0 p0 p.1) ?_ ?_
 ·skip
  refine tri_region ?_
  refine s_fieldAddr rfl rfl fd87_0 rfl rfl rfl rfl ?_
  refine s_load rfl rfl rfl rfl ty9 rfl (.inr rfl) (by conv => lhs; whnf) rfl rfl rfl ?_
  refine bnd1_elim h fun x1 q2 h => ?_
  refine s_callN (kb := []) (ns := []) (v := .sc (.bool x1)) rfl rfl cl75 (wi_NameOk p0.name x1 q2) rfl (.cons (.free rfl) .nil) trivial memNil .nil memNil rfl trivial memNil rfl rfl rfl rfl rfl rfl ?_
  refine s_of (st_not rfl rfl) rfl rfl rfl rfl ?_
  refine m1 ?_
  refine s_split (t := 7) rfl (fun b3 => ?_) (fun b3 => ?_)
  ·replace h := cond_t h b3
   refine s_skip rfl rfl rfl ?_
   refine s_skip rfl rfl rfl ?_
   refine s_skip rfl rfl rfl ?_
   refine s_skip rfl rfl rfl ?_
   refine s_pickT rfl rfl (v := .sc (.bool true)) rfl rfl rfl rfl ?_
   refine rt_nil ?_
   refine Exists.intro ⟨true, h⟩ ?_
   refine entX [((1, 0), ⟨87, 6, [[.sc (.string p0.name), .sc (.int .i64 p0.ty), .sc (.int .i64 p0.ttl), .sc (.int .i64 p0.n), .sc (.string p0.host), .sc (.string p0.text)]], false, true⟩, some (1, 0))] [] ⟨⟨rfl, _, rfl, rfl, rfl, rfl, id, rowsCv_one (.cons (.free rfl) (.cons (.free rfl) (.cons (.free rfl) (.cons (.free rfl) (.cons (.free rfl) (.cons (.free rfl) .nil)))))), rowsZ_one rfl⟩, trivial⟩ trivial rfl rfl ?_
   exact ⟨(.ptr rfl), (.free rfl), trivial⟩
  ·replace h := cond_f h b3
   refine s_fieldAddr rfl rfl fd87_2 rfl rfl rfl rfl ?_
   refine s_load rfl rfl rfl rfl ty3 rfl (.inr rfl) (by conv => lhs; whnf) rfl rfl rfl ?_
   refine bnd1_elim h fun x4 q5 h => ?_
   refine s_callN (kb := []) (ns := []) (v := .sc (.bool x4)) rfl rfl cl132 (wi_isTtl p0.ttl x4 q5) rfl (.cons (.free rfl) .nil) trivial memNil .nil memNil rfl trivial memNil rfl rfl rfl rfl rfl rfl ?_
   refine s_of (st_not rfl rfl) rfl rfl rfl rfl ?_
   refine s_pickF rfl rfl (by conv => lhs; whnf) rfl rfl rfl ?_
   refine rt_nil ?_
   refine Exists.intro ⟨!x4, h⟩ ?_
   refine entX [((1, 0), ⟨87, 6, [[.sc (.string p0.name), .sc (.int .i64 p0.ty), .sc (.int .i64 p0.ttl), .sc (.int .i64 p0.n), .sc (.string p0.host), .sc (.string p0.text)]], false, true⟩, some (1, 0))] [] ⟨⟨rfl, _, rfl, rfl, rfl, rfl, id, rowsCv_one (.cons (.free rfl) (.cons (.free rfl) (.cons (.free rfl) (.cons (.free rfl) (.cons (.free rfl) (.cons (.free rfl) .nil)))))), rowsZ_one rfl⟩, trivial⟩ trivial rfl rfl ?_
   exact ⟨(.ptr rfl), (.free rfl), trivial⟩
 ·rintro ⟨j0_0, h⟩
  replace h : i_RecordOk_j0 p0 j0_0 = some r0 := h
  unfold i_RecordOk_j0 at h
  show Tri _ _ _ (inv_i_RecordOk_0 p0 j0_0)
  refine tri_cond rfl (fun c1 => ?_) (fun c1 => ?_)
  ·replace h := cond_t h c1
   refine tri_sr ?_
   refine s_mv (.inr rfl) (v := .sc (.bool false)) rfl rfl rfl rfl ?_
   refine rt_nil ?_
   refine tri_ret ?_
   have e0 := (some1 h); subst e0
   exact endY [] [] (rvC (resTmp rfl) rvN) trivial trivial rfl rfl rfl rfl (.free rfl)
  ·replace h := cond_f h c1
   refine tri_skip ?_
   refine tri_seq ?_
   refine tri_sr ?_
   refine s_fieldAddr rfl rfl fd87_1 rfl rfl rfl rfl ?_
   refine s_load rfl rfl rfl rfl ty3 rfl (.inr rfl) (by conv => lhs; whnf) rfl rfl rfl ?_
   refine rt_nil ?_
   refine tri_block ?_
   refine tri_sr ?_
   refine s_of (st_eqI rfl rfl rfl) rfl rfl rfl rfl ?_
   refine m2 ?_
   refine rt_nil ?_
   refine tri_cond rfl (fun c2 => ?_) (fun c2 => ?_)
   ·replace h := cond_t h c2
    refine tri_sr ?_
    refine s_fieldAddr rfl rfl fd87_3 rfl rfl rfl rfl ?_
    refine s_load rfl rfl rfl rfl ty3 rfl (.inr rfl) (by conv => lhs; whnf) rfl rfl rfl ?_
    refine bnd1_elim h fun x3 q4 h => ?_
    refine s_callN (kb := []) (ns := []) (v := .sc (.bool x3)) rfl rfl cl133 (wi_isFour p0.n x3 q4) rfl (.cons (.free rfl) .nil) trivial memNil .nil memNil rfl trivial memNil rfl rfl rfl rfl rfl rfl ?_
    refine m1 ?_
    refine s_split (t := 20) rfl (fun b5 => ?_) (fun b5 => ?_)
    ·replace h := cond_t h b5
     refine s_fieldAddr rfl rfl fd87_4 rfl rfl rfl rfl ?_
     refine s_load rfl rfl rfl rfl ty9 rfl (.inr rfl) (by conv => lhs; whnf) rfl rfl rfl ?_
     refine s_of (st_eqS rfl rfl rfl) rfl rfl rfl rfl ?_
     refine s_pickT rfl rfl (by conv => lhs; whnf) rfl rfl rfl ?_
     refine m1 ?_
     refine s_split (t := 25) rfl (fun b6 => ?_) (fun b6 => ?_)
     ·replace h := cond_t h b6
      refine s_fieldAddr rfl rfl fd87_5 rfl rfl rfl rfl ?_
      refine s_load rfl rfl rfl rfl ty9 rfl (.inr rfl) (by conv => lhs; whnf) rfl rfl rfl ?_
      refine s_of (st_eqS rfl rfl rfl) rfl rfl rfl rfl ?_
      refine s_pickT rfl rfl (by conv => lhs; whnf) rfl rfl rfl ?_
      refine m2 ?_
      refine rt_nil ?_
      refine tri_ret ?_
      have e0 := (some1 h); subst e0
      exact endY [] [] (rvC (resTmp rfl) rvN) trivial trivial rfl rfl rfl rfl (.free rfl)
     ·replace h := cond_f h b6
      refine s_skip rfl rfl rfl ?_
      refine s_skip rfl rfl rfl ?_
      refine s_skip rfl rfl rfl ?_
      refine s_pickF rfl rfl (v := .sc (.bool false)) rfl rfl rfl rfl ?_
      refine m2 ?_
      refine rt_nil ?_
      refine tri_ret ?_
      have e0 := (some1 h); subst e0
      exact endY [] [] (rvC (resTmp rfl) rvN) trivial trivial rfl rfl rfl rfl (.free rfl)
    ·replace h := cond_f h b5
     refine s_skip rfl rfl rfl ?_
     refine s_skip rfl rfl rfl ?_
     refine s_skip rfl rfl rfl ?_
     refine s_pickF rfl rfl (v := .sc (.bool false)) rfl rfl rfl rfl ?_
     refine m1 ?_
     refine s_skip rfl rfl rfl ?_
     refine s_skip rfl rfl rfl ?_
     refine s_skip rfl rfl rfl ?_
     refine s_pickF rfl rfl (v := .sc (.bool false)) rfl rfl rfl rfl ?_
     refine m2 ?_
     refine rt_nil ?_
     refine tri_ret ?_
     have e0 := (some1 h); subst e0
     exact endY [] [] (rvC (resTmp rfl) rvN) trivial trivial rfl rfl rfl rfl (.free rfl)
   ·replace h := cond_f h c2
    refine tri_cutI (ι := { p : Bool // i_RecordOk_j1 p0 p = some r0 }) (fun p => inv_i_RecordOk_1 p0 p.1) ?_ ?_
    ·skip
     refine tri_sr ?_
     refine s_of (st_eqI rfl rfl rfl) rfl rfl rfl rfl ?_
     refine m2 ?_
     refine rt_nil ?_
     refine tri_cond rfl (fun c7 => ?_) (fun c7 => ?_)
     ·replace h := cond_t h c7
      refine tri_skip ?_
      refine Exists.intro ⟨decide (p0.ty = 2), h⟩ ?_
      refine entX [((1, 0), ⟨87, 6, [[.sc (.string p0.name), .sc (.int .i64 p0.ty), .sc (.int .i64 p0.ttl), .sc (.int .i64 p0.n), .sc (.string p0.host), .sc (.string p0.text)]], false, true⟩, some (1, 0))] [] ⟨⟨rfl, _, rfl, rfl, rfl, rfl, id, rowsCv_one (.cons (.free rfl) (.cons (.free rfl) (.cons (.free rfl) (.cons (.free rfl) (.cons (.free rfl) (.cons (.free rfl) .nil)))))), rowsZ_one rfl⟩, trivial⟩ trivial rfl rfl ?_
      exact ⟨(.ptr rfl), (.free rfl), (.free rfl), trivial⟩
     ·replace h := cond_f h c7
      refine tri_region ?_
      refine s_of (st_eqI rfl rfl rfl) rfl rfl rfl rfl ?_
      refine m2 ?_
      refine rt_nil ?_
      refine Exists.intro ⟨decide (p0.ty = 5), h⟩ ?_
      refine entX [((1, 0), ⟨87, 6, [[.sc (.string p0.name), .sc (.int .i64 p0.ty), .sc (.int .i64 p0.ttl), .sc (.int .i64 p0.n), .sc (.string p0.host), .sc (.string p0.text)]], false, true⟩, some (1, 0))] [] ⟨⟨rfl, _, rfl, rfl, rfl, rfl, id, rowsCv_one (.cons (.free rfl) (.cons (.free rfl) (.cons (.free rfl) (.cons (.free rfl) (.cons (.free rfl) (.cons (.free rfl) .nil)))))), rowsZ_one rfl⟩, trivial⟩ trivial rfl rfl ?_
      exact ⟨(.ptr rfl), (.free rfl), (.free rfl), trivial⟩
    ·rintro ⟨j1_0, h⟩
     replace h : i_RecordOk_j1 p0 j1_0 = some r0 := h
     unfold i_RecordOk_j1 at h
     show Tri _ _ _ (inv_i_RecordOk_1 p0 j1_0)
     refine tri_cond rfl (fun c7 => ?_) (fun c7 => ?_)
     ·replace h := cond_t h c7
      refine tri_sr ?_
      refine s_fieldAddr rfl rfl fd87_3 rfl rfl rfl rfl ?_
      refine s_load rfl rfl rfl rfl ty3 rfl (.inr rfl) (by conv => lhs; whnf) rfl rfl rfl ?_
      refine s_of (st_eqI rfl rfl rfl) rfl rfl rfl rfl ?_
      refine m1 ?_
      refine s_split (t := 36) rfl (fun b8 => ?_) (fun b8 => ?_)
      ·replace h := cond_t h b8
       refine s_fieldAddr rfl rfl fd87_4 rfl rfl rfl rfl ?_
       refine s_load rfl rfl rfl rfl ty9 rfl (.inr rfl) (by conv => lhs; whnf) rfl rfl rfl ?_
       refine bnd1_elim h fun x9 q10 h => ?_
       refine s_callN (kb := []) (ns := []) (v := .sc (.bool x9)) rfl rfl cl75 (wi_NameOk p0.host x9 q10) rfl (.cons (.free rfl) .nil) trivial memNil .nil memNil rfl trivial memNil rfl rfl rfl rfl rfl rfl ?_
       refine s_pickT rfl rfl (by conv => lhs; whnf) rfl rfl rfl ?_
       refine m1 ?_
       refine s_split (t := 41) rfl (fun b11 => ?_) (fun b11 => ?_)
       ·replace h := cond_t h b11
        refine s_fieldAddr rfl rfl fd87_5 rfl rfl rfl rfl ?_
        refine s_load rfl rfl rfl rfl ty9 rfl (.inr rfl) (by conv => lhs; whnf) rfl rfl rfl ?_
        refine s_of (st_eqS rfl rfl rfl) rfl rfl rfl rfl ?_
        refine s_pickT rfl rfl (by conv => lhs; whnf) rfl rfl rfl ?_
        refine m2 ?_
        refine rt_nil ?_
        refine tri_ret ?_
        have e0 := (some1 h); subst e0
        exact endY [] [] (rvC (resTmp rfl) rvN) trivial trivial rfl rfl rfl rfl (.free rfl)
       ·replace h := cond_f h b11
        refine s_skip rfl rfl rfl ?_
        refine s_skip rfl rfl rfl ?_
        refine s_skip rfl rfl rfl ?_
        refine s_pickF rfl rfl (v := .sc (.bool false)) rfl rfl rfl rfl ?_
        refine m2 ?_
        refine rt_nil ?_
        refine tri_ret ?_
        have e0 := (some1 h); subst e0
        exact endY [] [] (rvC (resTmp rfl) rvN) trivial trivial rfl rfl rfl rfl (.free rfl)
      ·replace h := cond_f h b8
       refine s_skip rfl rfl rfl ?_
       refine s_skip rfl rfl rfl ?_
       refine s_skip rfl rfl rfl ?_
       refine s_pickF rfl rfl (v := .sc (.bool false)) rfl rfl rfl rfl ?_
       refine m1 ?_
       refine s_skip rfl rfl rfl ?_
       refine s_skip rfl rfl rfl ?_
       refine s_skip rfl rfl rfl ?_
       refine s_pickF rfl rfl (v := .sc (.bool false)) rfl rfl rfl rfl ?_
       refine m2 ?_
       refine rt_nil ?_
       refine tri_ret ?_
       have e0 := (some1 h); subst e0
       exact endY [] [] (rvC (resTmp rfl) rvN) trivial trivial rfl rfl rfl rfl (.free rfl)
     ·replace h := cond_f h c7
      refine tri_sr ?_
      refine s_of (st_eqI rfl rfl rfl) rfl rfl rfl rfl ?_
      refine m2 ?_
      refine rt_nil ?_
      refine tri_cond rfl (fun c12 => ?_) (fun c12 => ?_)
      ·replace h := cond_t h c12
       refine tri_sr ?_
       refine s_fieldAddr rfl rfl fd87_3 rfl rfl rfl rfl ?_
       refine s_load rfl rfl rfl rfl ty3 rfl (.inr rfl) (by conv => lhs; whnf) rfl rfl rfl ?_
       refine bnd1_elim h fun x13 q14 h => ?_
       refine s_callN (kb := []) (ns := []) (v := .sc (.bool x13)) rfl rfl cl132 (wi_isTtl p0.n x13 q14) rfl (.cons (.free rfl) .nil) trivial memNil .nil memNil rfl trivial memNil rfl rfl rfl rfl rfl rfl ?_
       refine m1 ?_
       refine s_split (t := 51) rfl (fun b15 => ?_) (fun b15 => ?_)
       ·replace h := cond_t h b15
        refine s_fieldAddr rfl rfl fd87_4 rfl rfl rfl rfl ?_
        refine s_load rfl rfl rfl rfl ty9 rfl (.inr rfl) (by conv => lhs; whnf) rfl rfl rfl ?_
        refine bnd1_elim h fun x16 q17 h => ?_
        refine s_callN (kb := []) (ns := []) (v := .sc (.bool x16)) rfl rfl cl75 (wi_NameOk p0.host x16 q17) rfl (.cons (.free rfl) .nil) trivial memNil .nil memNil rfl trivial memNil rfl rfl rfl rfl rfl rfl ?_
        refine s_pickT rfl rfl (by conv => lhs; whnf) rfl rfl rfl ?_
        refine m1 ?_
        refine s_split (t := 56) rfl (fun b18 => ?_) (fun b18 => ?_)
        ·replace h := cond_t h b18
         refine s_fieldAddr rfl rfl fd87_5 rfl rfl rfl rfl ?_
         refine s_load rfl rfl rfl rfl ty9 rfl (.inr rfl) (by conv => lhs; whnf) rfl rfl rfl ?_
         refine s_of (st_eqS rfl rfl rfl) rfl rfl rfl rfl ?_
         refine s_pickT rfl rfl (by conv => lhs; whnf) rfl rfl rfl ?_
         refine m2 ?_
         refine rt_nil ?_
         refine tri_ret ?_
         have e0 := (some1 h); subst e0
         exact endY [] [] (rvC (resTmp rfl) rvN) trivial trivial rfl rfl rfl rfl (.free rfl)
        ·replace h := cond_f h b18
         refine s_skip rfl rfl rfl ?_
         refine s_skip rfl rfl rfl ?_
         refine s_skip rfl rfl rfl ?_
         refine s_pickF rfl rfl (v := .sc (.bool false)) rfl rfl rfl rfl ?_
         refine m2 ?_
         refine rt_nil ?_
         refine tri_ret ?_
         have e0 := (some1 h); subst e0
         exact endY [] [] (rvC (resTmp rfl) rvN) trivial trivial rfl rfl rfl rfl (.free rfl)
       ·replace h := cond_f h b15
        refine s_skip rfl rfl rfl ?_
        refine s_skip rfl rfl rfl ?_
        refine s_skip rfl rfl rfl ?_
        refine s_pickF rfl rfl (v := .sc (.bool false)) rfl rfl rfl rfl ?_
        refine m1 ?_
        refine s_skip rfl rfl rfl ?_
        refine s_skip rfl rfl rfl ?_
        refine s_skip rfl rfl rfl ?_
        refine s_pickF rfl rfl (v := .sc (.bool false)) rfl rfl rfl rfl ?_
        refine m2 ?_
        refine rt_nil ?_
        refine tri_ret ?_
        have e0 := (some1 h); subst e0
        exact endY [] [] (rvC (resTmp rfl) rvN) trivial trivial rfl rfl rfl rfl (.free rfl)
      ·replace h := cond_f h c12
       refine tri_sr ?_
       refine s_of (st_eqI rfl rfl rfl) rfl rfl rfl rfl ?_
       refine m2 ?_
       refine rt_nil ?_
       refine tri_cond rfl (fun c19 => ?_) (fun c19 => ?_)
       ·replace h := cond_t h c19
        refine tri_sr ?_
        refine s_fieldAddr rfl rfl fd87_3 rfl rfl rfl rfl ?_
        refine s_load rfl rfl rfl rfl ty3 rfl (.inr rfl) (by conv => lhs; whnf) rfl rfl rfl ?_
        refine s_of (st_eqI rfl rfl rfl) rfl rfl rfl rfl ?_
        refine m1 ?_
        refine s_split (t := 66) rfl (fun b20 => ?_) (fun b20 => ?_)
        ·replace h := cond_t h b20
         refine s_fieldAddr rfl rfl fd87_4 rfl rfl rfl rfl ?_
         refine s_load rfl rfl rfl rfl ty9 rfl (.inr rfl) (by conv => lhs; whnf) rfl rfl rfl ?_
         refine s_of (st_eqS rfl rfl rfl) rfl rfl rfl rfl ?_
         refine s_pickT rfl rfl (by conv => lhs; whnf) rfl rfl rfl ?_
         refine m1 ?_
         refine s_split (t := 71) rfl (fun b21 => ?_) (fun b21 => ?_)
         ·replace h := cond_t h b21
          refine s_fieldAddr rfl rfl fd87_5 rfl rfl rfl rfl ?_
          refine s_load rfl rfl rfl rfl ty9 rfl (.inr rfl) (by conv => lhs; whnf) rfl rfl rfl ?_
          refine bnd1_elim h fun x22 q23 h => ?_
          refine s_callN (kb := []) (ns := []) (v := .sc (.bool x22)) rfl rfl cl134 (wi_isText p0.text x22 q23) rfl (.cons (.free rfl) .nil) trivial memNil .nil memNil rfl trivial memNil rfl rfl rfl rfl rfl rfl ?_
          refine s_pickT rfl rfl (by conv => lhs; whnf) rfl rfl rfl ?_
          refine m2 ?_
          refine rt_nil ?_
          refine tri_ret ?_
          have e0 := (some1 h); subst e0
          exact endY [] [] (rvC (resTmp rfl) rvN) trivial trivial rfl rfl rfl rfl (.free rfl)
         ·replace h := cond_f h b21
          refine s_skip rfl rfl rfl ?_
          refine s_skip rfl rfl rfl ?_
          refine s_skip rfl rfl rfl ?_
          refine s_pickF rfl rfl (v := .sc (.bool false)) rfl rfl rfl rfl ?_
          refine m2 ?_
          refine rt_nil ?_
          refine tri_ret ?_
          have e0 := (some1 h); subst e0
          exact endY [] [] (rvC (resTmp rfl) rvN) trivial trivial rfl rfl rfl rfl (.free rfl)
        ·replace h := cond_f h b20
         refine s_skip rfl rfl rfl ?_
         refine s_skip rfl rfl rfl ?_
         refine s_skip rfl rfl rfl ?_
         refine s_pickF rfl rfl (v := .sc (.bool false)) rfl rfl rfl rfl ?_
         refine m1 ?_
         refine s_skip rfl rfl rfl ?_
         refine s_skip rfl rfl rfl ?_
         refine s_skip rfl rfl rfl ?_
         refine s_pickF rfl rfl (v := .sc (.bool false)) rfl rfl rfl rfl ?_
         refine m2 ?_
         refine rt_nil ?_
         refine tri_ret ?_
         have e0 := (some1 h); subst e0
         exact endY [] [] (rvC (resTmp rfl) rvN) trivial trivial rfl rfl rfl rfl (.free rfl)
       ·replace h := cond_f h c19
        refine tri_skip ?_
        refine tri_sr ?_
        refine s_mv (.inr rfl) (v := .sc (.bool false)) rfl rfl rfl rfl ?_
        refine rt_nil ?_
        refine tri_ret ?_
        have e0 := (some1 h); subst e0
        exact endY [] [] (rvC (resTmp rfl) rvN) trivial trivial rfl rfl rfl rfl (.free rfl)

/- impl.allOk$1 -/

set_option maxRecDepth 4000 in
set_option maxHeartbeats 800000 in
theorem wi_allOk_1 (p0 : Rec) (r0 : Bool) (h : i_allOk_1 p0 = some r0) : Runs Tryz.prog 100 [.agg (recV p0)] [] (.sc (.bool r0)) [] := by
 unfold i_allOk_1 at h
 refine runsR [.tmp 2] Tryz.func100 rfl rfl rfl rfl ?_
 rw [Tryz.ntmps100]
 refine tri_sr ?_
 refine s_box rfl rfl rfl rfl rfl rfl rfl ?_
 refine s_mv (.inr rfl) (v := .sc (.bool false)) rfl rfl rfl rfl ?_
 refine rt_nil ?_
 refine tri_sr ?_
 refine s_loadR rfl rfl rfl rfl ty87 rfl rfl rfl ?_
 refine bnd1_elim h fun x1 q2 h => ?_
 refine s_callN (kb := []) (ns := []) (v := .sc (.bool x1)) rfl rfl cl101 (wi_RecordOk p0 x1 q2) rfl (.cons (relAgg rfl) .nil) trivial memNil .nil memNil rfl trivial memNil rfl rfl rfl rfl rfl rfl ?_
 refine s_of (st_not rfl rfl) rfl rfl rfl rfl ?_
 refine m2 ?_
 refine rt_nil ?_
 refine tri_ret ?_
 have e0 := (some1 h); subst e0
 exact endY [] [] (rvC (resTmp rfl) rvN) trivial trivial rfl rfl rfl rfl (.free rfl)

/- impl.allOk -/

set_option maxRecDepth 4000 in
set_option maxHeartbeats 800000 in
theorem wi_allOk (p0 : List Rec) (p1 : Int) (r0 : Bool) (h : i_allOk p0 p1 = some r0) : Runs Tryz.prog 61 [.lst 6 (List.map recV p0), .sc (.int .i64 p1)] [] (.sc (.bool r0)) [] := by
 unfold i_allOk at h
 refine runsR [.tmp 4] Tryz.func61 rfl rfl rfl rfl ?_
 rw [Tryz.ntmps61]
 refine tri_sr ?_
 refine s_mv (.inr rfl) (v := .sc (.bool false)) rfl rfl rfl rfl ?_
 refine rt_nil ?_
 refine tri_sr ?_
 refine m1 ?_
 refine s_lenL rfl sl26 rfl rfl rfl rfl ?_
 refine m1 ?_
 refine s_of (st_leq rfl rfl rfl) rfl rfl rfl rfl ?_
 refine m1 ?_
 refine s_split (t := 9) rfl (fun b1 => ?_) (fun b1 => ?_)
 ·replace h := cond_t h b1
  refine m1 ?_
  refine bnd1_elim h fun x2 q3 h => ?_
  refine s_callN (kb := []) (ns := []) (v := .sc (.bool x2)) rfl rfl cl99 (wslices_ContainsFunc_Record p0 100 [] rfl cl100 (fun a0 => i_allOk_1 a0) (fun a0 v0 hv => wi_allOk_1 a0 v0 hv) x2 q3) rfl (.cons (.free rfl) (.cons relFn0 .nil)) trivial memNil .nil memNil rfl trivial memNil rfl rfl rfl rfl rfl rfl ?_
  refine s_of (st_not rfl rfl) rfl rfl rfl rfl ?_
  refine s_pickT rfl rfl (by conv => lhs; whnf) rfl rfl rfl ?_
  refine m2 ?_
  refine rt_nil ?_
  refine tri_ret ?_
  have e0 := (some1 h); subst e0
  exact endY [] [] (rvC (resTmp rfl) rvN) trivial trivial rfl rfl rfl rfl (.free rfl)
 ·replace h := cond_f h b1
  refine s_skip rfl rfl rfl ?_
  refine s_skip rfl rfl rfl ?_
  refine s_skip rfl rfl rfl ?_
  refine s_pickF rfl rfl (v := .sc (.bool false)) rfl rfl rfl rfl ?_
  refine m2 ?_
  refine rt_nil ?_
  refine tri_ret ?_
  have e0 := (some1 h); subst e0
  exact endY [] [] (rvC (resTmp rfl) rvN) trivial trivial rfl rfl rfl rfl (.free rfl)

/- impl.MsgOk -/

set_option maxRecDepth 4000 in
set_option maxHeartbeats 800000 in
theorem wi_MsgOk (p0 : MMsg) (r0 : Bool) (h : i_MsgOk p0 = some r0) : Runs Tryz.prog 27 [.agg (mMsgV p0)] [] (.sc (.bool r0)) [] := by
 unfold i_MsgOk at h
 refine runsR [.tmp 2] Tryz.func27 rfl rfl rfl rfl ?_
 rw [Tryz.ntmps27]
 refine tri_sr ?_
 refine s_box rfl rfl rfl rfl rfl rfl rfl ?_
 refine s_mv (.inr rfl) (v := .sc (.bool false)) rfl rfl rfl rfl ?_
 refine rt_nil ?_
 refine tri_sr ?_
 refine s_fieldAddr rfl rfl fd28_0 rfl rfl rfl rfl ?_
 refine s_load rfl rfl rfl rfl ty3 rfl (.inr rfl) (by conv => lhs; whnf) rfl rfl rfl ?_
 refine s_of (st_geq rfl rfl rfl) rfl rfl rfl rfl ?_
 refine m1 ?_
 refine s_split (t := 6) rfl (fun b1 => ?_) (fun b1 => ?_)
 ·replace h := cond_t h b1
  refine s_fieldAddr rfl rfl fd28_0 rfl rfl rfl rfl ?_
  refine s_load rfl rfl rfl rfl ty3 rfl (.inr rfl) (by conv => lhs; whnf) rfl rfl rfl ?_
  refine s_of (st_leq rfl rfl rfl) rfl rfl rfl rfl ?_
  refine s_pickT rfl rfl (by conv => lhs; whnf) rfl rfl rfl ?_
  refine m1 ?_
  refine s_split (t := 11) rfl (fun b2 => ?_) (fun b2 => ?_)
  ·replace h := cond_t h b2
   refine s_fieldAddr rfl rfl fd28_6 rfl rfl rfl rfl ?_
   refine s_load rfl rfl rfl rfl ty3 rfl (.inr rfl) (by conv => lhs; whnf) rfl rfl rfl ?_
   refine s_of (st_geq rfl rfl rfl) rfl rfl rfl rfl ?_
   refine s_pickT rfl rfl (by conv => lhs; whnf) rfl rfl rfl ?_
   refine m1 ?_
   refine s_split (t := 16) rfl (fun b3 => ?_) (fun b3 => ?_)
   ·replace h := cond_t h b3
    refine s_fieldAddr rfl rfl fd28_6 rfl rfl rfl rfl ?_
    refine s_load rfl rfl rfl rfl ty3 rfl (.inr rfl) (by conv => lhs; whnf) rfl rfl rfl ?_
    refine s_of (st_leq rfl rfl rfl) rfl rfl rfl rfl ?_
    refine s_pickT rfl rfl (by conv => lhs; whnf) rfl rfl rfl ?_
    refine m1 ?_
    refine s_split (t := 21) rfl (fun b4 => ?_) (fun b4 => ?_)
    ·replace h := cond_t h b4
     refine s_fieldAddr rfl rfl fd28_7 rfl rfl rfl rfl ?_
     refine s_load (v := .agg (questV p0.q)) rfl rfl rfl rfl ty25 rfl (.inl rfl) rfl rfl rfl rfl ?_
     refine bnd1_elim h fun x5 q6 h => ?_
     refine s_callN (kb := []) (ns := []) (v := .sc (.bool x5)) rfl rfl cl55 (wi_QuestOk p0.q x5 q6) rfl (.cons (relAgg rfl) .nil) trivial memNil .nil memNil rfl trivial memNil rfl rfl rfl rfl rfl rfl ?_
     refine s_pickT rfl rfl (by conv => lhs; whnf) rfl rfl rfl ?_
     refine m1 ?_
     refine s_split (t := 26) rfl (fun b7 => ?_) (fun b7 => ?_)
     ·replace h := cond_t h b7
      refine s_fieldAddr rfl rfl fd28_8 rfl rfl rfl rfl ?_
      refine s_load rfl rfl rfl rfl ty26 rfl (.inr rfl) (by conv => lhs; whnf) rfl rfl rfl ?_
      refine bnd1_elim h fun x8 q9 h => ?_
      refine s_callN (kb := []) (ns := []) (v := .sc (.bool x8)) rfl rfl cl61 (wi_allOk p0.an 8 x8 q9) rfl (.cons (.free rfl) (.cons (.free rfl) .nil)) trivial memNil .nil memNil rfl trivial memNil rfl rfl rfl rfl rfl rfl ?_
      refine s_pickT rfl rfl (by conv => lhs; whnf) rfl rfl rfl ?_
      refine m1 ?_
      refine s_split (t := 31) rfl (fun b10 => ?_) (fun b10 => ?_)
      ·replace h := cond_t h b10
       refine s_fieldAddr rfl rfl fd28_9 rfl rfl rfl rfl ?_
       refine s_load rfl rfl rfl rfl ty26 rfl (.inr rfl) (by conv => lhs; whnf) rfl rfl rfl ?_
       refine bnd1_elim h fun x11 q12 h => ?_
       refine s_callN (kb := []) (ns := []) (v := .sc (.bool x11)) rfl rfl cl61 (wi_allOk p0.au 8 x11 q12) rfl (.cons (.free rfl) (.cons (.free rfl) .nil)) trivial memNil .nil memNil rfl trivial memNil rfl rfl rfl rfl rfl rfl ?_
       refine s_pickT rfl rfl (by conv => lhs; whnf) rfl rfl rfl ?_
       refine m1 ?_
       refine s_split (t := 36) rfl (fun b13 => ?_) (fun b13 => ?_)
       ·replace h := cond_t h b13
        refine s_fieldAddr rfl rfl fd28_10 rfl rfl rfl rfl ?_
        refine s_load rfl rfl rfl rfl ty26 rfl (.inr rfl) (by conv => lhs; whnf) rfl rfl rfl ?_
        refine bnd1_elim h fun x14 q15 h => ?_
        refine s_callN (kb := []) (ns := []) (v := .sc (.bool x14)) rfl rfl cl61 (wi_allOk p0.ad 8 x14 q15) rfl (.cons (.free rfl) (.cons (.free rfl) .nil)) trivial memNil .nil memNil rfl trivial memNil rfl rfl rfl rfl rfl rfl ?_
        refine s_pickT rfl rfl (by conv => lhs; whnf) rfl rfl rfl ?_
        refine m2 ?_
        refine rt_nil ?_
        refine tri_ret ?_
        have e0 := (some1 h); subst e0
        exact endY [] [] (rvC (resTmp rfl) rvN) trivial trivial rfl rfl rfl rfl (.free rfl)
       ·replace h := cond_f h b13
        refine s_skip rfl rfl rfl ?_
        refine s_skip rfl rfl rfl ?_
        refine s_skip rfl rfl rfl ?_
        refine s_pickF rfl rfl (v := .sc (.bool false)) rfl rfl rfl rfl ?_
        refine m2 ?_
        refine rt_nil ?_
        refine tri_ret ?_
        have e0 := (some1 h); subst e0
        exact endY [] [] (rvC (resTmp rfl) rvN) trivial trivial rfl rfl rfl rfl (.free rfl)
      ·replace h := cond_f h b10
       refine s_skip rfl rfl rfl ?_
       refine s_skip rfl rfl rfl ?_
       refine s_skip rfl rfl rfl ?_
       refine s_pickF rfl rfl (v := .sc (.bool false)) rfl rfl rfl rfl ?_
       refine m1 ?_
       refine s_skip rfl rfl rfl ?_
       refine s_skip rfl rfl rfl ?_
       refine s_skip rfl rfl rfl ?_
       refine s_pickF rfl rfl (v := .sc (.bool false)) rfl rfl rfl rfl ?_
       refine m2 ?_
       refine rt_nil ?_
       refine tri_ret ?_
       have e0 := (some1 h); subst e0
       exact endY [] [] (rvC (resTmp rfl) rvN) trivial trivial rfl rfl rfl rfl (.free rfl)
     ·replace h := cond_f h b7
      refine s_skip rfl rfl rfl ?_
      refine s_skip rfl rfl rfl ?_
      refine s_skip rfl rfl rfl ?_
      refine s_pickF rfl rfl (v := .sc (.bool false)) rfl rfl rfl rfl ?_
      refine m1 ?_
      refine s_skip rfl rfl rfl ?_
      refine s_skip rfl rfl rfl ?_
      refine s_skip rfl rfl rfl ?_
      refine s_pickF rfl rfl (v := .sc (.bool false)) rfl rfl rfl rfl ?_
      refine m1 ?_
      refine s_skip rfl rfl rfl ?_
      refine s_skip rfl rfl rfl ?_
      refine s_skip rfl rfl rfl ?_
      refine s_pickF rfl rfl (v := .sc (.bool false)) rfl rfl rfl rfl ?_
      refine m2 ?_
      refine rt_nil ?_
      refine tri_ret ?_
      have e0 := (some1 h); subst e0
      exact endY [] [] (rvC (resTmp rfl) rvN) trivial trivial rfl rfl rfl rfl (.free rfl)
    ·replace h := cond_f h b4
     refine s_skip rfl rfl rfl ?_
     refine s_skip rfl rfl rfl ?_
     refine s_skip rfl rfl rfl ?_
     refine s_pickF rfl rfl (v := .sc (.bool false)) rfl rfl rfl rfl ?_
     refine m1 ?_
     refine s_skip rfl rfl rfl ?_
     refine s_skip rfl rfl rfl ?_
     refine s_skip rfl rfl rfl ?_
     refine s_pickF rfl rfl (v := .sc (.bool false)) rfl rfl rfl rfl ?_
     refine m1 ?_
     refine s_skip rfl rfl rfl ?_
     refine s_skip rfl rfl rfl ?_
     refine s_skip rfl rfl rfl ?_
     refine s_pickF rfl rfl (v := .sc (.bool false)) rfl rfl rfl rfl ?_
     refine m1 ?_
     refine s_skip rfl rfl rfl ?_
     refine s_skip rfl rfl rfl ?_
     refine s_skip rfl rfl rfl ?_
     refine s_pickF rfl rfl (v := .sc (.bool false)) rfl rfl rfl rfl ?_
     refine m2 ?_
     refine rt_nil ?_
     refine tri_ret ?_
     have e0 := (some1 h); subst e0
     exact endY [] [] (rvC (resTmp rfl) rvN) trivial trivial rfl rfl rfl rfl (.free rfl)
   ·replace h := cond_f h b3
    refine s_skip rfl rfl rfl ?_
    refine s_skip rfl rfl rfl ?_
    refine s_skip rfl rfl rfl ?_
    refine s_pickF rfl rfl (v := .sc (.bool false)) rfl rfl rfl rfl ?_
    refine m1 ?_
    refine s_skip rfl rfl rfl ?_
    refine s_skip rfl rfl rfl ?_
    refine s_skip rfl rfl rfl ?_
    refine s_pickF rfl rfl (v := .sc (.bool false)) rfl rfl rfl rfl ?_
    refine m1 ?_
    refine s_skip rfl rfl rfl ?_
    refine s_skip rfl rfl rfl ?_
    refine s_skip rfl rfl rfl ?_
    refine s_pickF rfl rfl (v := .sc (.bool false)) rfl rfl rfl rfl ?_
    refine m1 ?_
    refine s_skip rfl rfl rfl ?_
    refine s_skip rfl rfl rfl ?_
    refine s_skip rfl rfl rfl ?_
    refine s_pickF rfl rfl (v := .sc (.bool false)) rfl rfl rfl rfl ?_
    refine m1 ?_
    refine s_skip rfl rfl rfl ?_
    refine s_skip rfl rfl rfl ?_
    refine s_skip rfl rfl rfl ?_
    refine s_pickF rfl rfl (v := .sc (.bool false)) rfl rfl rfl rfl ?_
    refine m2 ?_
    refine rt_nil ?_
    refine tri_ret ?_
    have e0 := (some1 h); subst e0
    exact endY [] [] (rvC (resTmp rfl) rvN) trivial trivial rfl rfl rfl rfl (.free rfl)
  ·replace h := cond_f h b2
   refine s_skip rfl rfl rfl ?_
   refine s_skip rfl rfl rfl ?_
   refine s_skip rfl rfl rfl ?_
   refine s_pickF rfl rfl (v := .sc (.bool false)) rfl rfl rfl rfl ?_
   refine m1 ?_
   refine s_skip rfl rfl rfl ?_
   refine s_skip rfl rfl rfl ?_
   refine s_skip rfl rfl rfl ?_
   refine s_pickF rfl rfl (v := .sc (.bool false)) rfl rfl rfl rfl ?_
   refine m1 ?_
   refine s_skip rfl rfl rfl ?_
   refine s_skip rfl rfl rfl ?_
   refine s_skip rfl rfl rfl ?_
   refine s_pickF rfl rfl (v := .sc (.bool false)) rfl rfl rfl rfl ?_
   refine m1 ?_
   refine s_skip rfl rfl rfl ?_
   refine s_skip rfl rfl rfl ?_
   refine s_skip rfl rfl rfl ?_
   refine s_pickF rfl rfl (v := .sc (.bool false)) rfl rfl rfl rfl ?_
   refine m1 ?_
   refine s_skip rfl rfl rfl ?_
   refine s_skip rfl rfl rfl ?_
   refine s_skip rfl rfl rfl ?_
   refine s_pickF rfl rfl (v := .sc (.bool false)) rfl rfl rfl rfl ?_
   refine m1 ?_
   refine s_skip rfl rfl rfl ?_
   refine s_skip rfl rfl rfl ?_
   refine s_skip rfl rfl rfl ?_
   refine s_pickF rfl rfl (v := .sc (.bool false)) rfl rfl rfl rfl ?_
   refine m2 ?_
   refine rt_nil ?_
   refine tri_ret ?_
   have e0 := (some1 h); subst e0
   exact endY [] [] (rvC (resTmp rfl) rvN) trivial trivial rfl rfl rfl rfl (.free rfl)
 ·replace h := cond_f h b1
  refine s_skip rfl rfl rfl ?_
  refine s_skip rfl rfl rfl ?_
  refine s_skip rfl rfl rfl ?_
  refine s_pickF rfl rfl (v := .sc (.bool false)) rfl rfl rfl rfl ?_
  refine m1 ?_
  refine s_skip rfl rfl rfl ?_
  refine s_skip rfl rfl rfl ?_
  refine s_skip rfl rfl rfl ?_
  refine s_pickF rfl rfl (v := .sc (.bool false)) rfl rfl rfl rfl ?_
  refine m1 ?_
  refine s_skip rfl rfl rfl ?_
  refine s_skip rfl rfl rfl ?_
  refine s_skip rfl rfl rfl ?_
  refine s_pickF rfl rfl (v := .sc (.bool false)) rfl rfl rfl rfl ?_
  refine m1 ?_
  refine s_skip rfl rfl rfl ?_
  refine s_skip rfl rfl rfl ?_
  refine s_skip rfl rfl rfl ?_
  refine s_pickF rfl rfl (v := .sc (.bool false)) rfl rfl rfl rfl ?_
  refine m1 ?_
  refine s_skip rfl rfl rfl ?_
  refine s_skip rfl rfl rfl ?_
  refine s_skip rfl rfl rfl ?_
  refine s_pickF rfl rfl (v := .sc (.bool false)) rfl rfl rfl rfl ?_
  refine m1 ?_
  refine s_skip rfl rfl rfl ?_
  refine s_skip rfl rfl rfl ?_
  refine s_skip rfl rfl rfl ?_
  refine s_pickF rfl rfl (v := .sc (.bool false)) rfl rfl rfl rfl ?_
  refine m1 ?_
  refine s_skip rfl rfl rfl ?_
  refine s_skip rfl rfl rfl ?_
  refine s_skip rfl rfl rfl ?_
  refine s_pickF rfl rfl (v := .sc (.bool false)) rfl rfl rfl rfl ?_
  refine m2 ?_
  refine rt_nil ?_
  refine tri_ret ?_
  have e0 := (some1 h); subst e0
  exact endY [] [] (rvC (resTmp rfl) rvN) trivial trivial rfl rfl rfl rfl (.free rfl)

/- slices.Clone[[]byte,byte] -/

set_option maxRecDepth 4000 in
set_option maxHeartbeats 800000 in
theorem wslices_Clone_byte (p0 : List Int) (r0 : List Int) (h : slices_Clone_byte p0 = some r0) : Runs Tryz.prog 74 [.lst 1 (List.map byteV p0)] [] (.own 5 1 (List.map byteV r0)) [] := by
 unfold slices_Clone_byte at h
 refine runsR [.tmp 2] Tryz.func74 rfl rfl rfl rfl ?_
 rw [Tryz.ntmps74]
 refine tri_sr ?_
 refine s_mv (.inr rfl) (v := .nils) rfl rfl rfl rfl ?_
 refine rt_nil ?_
 refine tri_seq ?_
 refine tri_seq ?_
 refine tri_isNil rfl (by conv => lhs; whnf) rfl rfl rfl rfl rfl slenL sl22 rfl rfl rfl (fun b1v b1 => ?_)
 refine tri_cond rfl (fun c2 => ?_) (fun c2 => ?_)
 ·obtain rfl : p0 = [] := List.eq_nil_of_length_eq_zero (b1 c2)
  refine tri_sr ?_
  refine s_mv (.inr rfl) (v := .nils) rfl rfl rfl rfl ?_
  refine rt_nil ?_
  refine tri_ret ?_
  replace h : some ([] : List Int) = some r0 := by simpa [grd] using h
  have e0 := (some1 h); subst e0
  exact endY (v' := .ref (2000, 0) 0 (([] : List Int).length)) [((2000, 0), ⟨5, 1, List.map byteV ([] : List Int), false, true⟩, none)] [] (rvC (resTmp rfl) rvN) ⟨rfl, trivial⟩ trivial rfl rfl (by kernel_rfl) (by simp only [V.mat, V.mat1, V.mat0, matL, matT, List.length_map] <;> rfl) (.nilRef rfl)
 ·skip
  refine tri_skip ?_
  refine tri_sr ?_
  refine s_buildSlice (rows' := List.map byteV ([] : List Int)) rfl rfl rfl sl22 zc5 rfl rfl rfl rfl rfl rfl rfl rfl rfl ?_
  refine m1 ?_
  refine grd_elim h fun g3 h => ?_
  refine s_appL rfl rfl rfl sl22 zc5 rfl rfl rfl rfl rfl rfl src_lst g3 rfl rfl ?_
  refine m2 ?_
  refine rt_nil ?_
  refine tri_ret ?_
  have e0 := (some1 h); subst e0
  exact endY (v' := .ref (2000, 0) 0 ((([] : List Int) ++ p0).length)) [((2000, 0), ⟨5, 1, List.map byteV (([] : List Int) ++ p0), false, true⟩, some (7, 0))] [] (rvC (resTmp rfl) rvN) ⟨⟨rfl, _, rfl, rfl, rfl, rfl, id, rowsCv_eq rfl (allFree_map byteV_free), rowsZ_map byteV_len⟩, trivial⟩ trivial rfl rfl (by kernel_rfl) (by simp only [V.mat, V.mat1, V.mat0, matL, matT, List.length_map] <;> rfl) (.ref rfl)

/- impl.putBytes -/
def inv_i_putBytes_1 (p1 : Int) (v1_0 : List Int) (v1_1 : Int) : St := mkT 36 [(1, .sc (.int .i64 p1)), (9, .ref (2009, 0) 0 v1_0.length), (10, .sc (.int .i64 v1_1))] [((2009, 0), some ⟨5, 1, List.map byteV v1_0, false, true⟩)]
def inv_i_putBytes_0 (p1 : Int) (p2 : Int) (x1 : List Int) (j0_0 : Bool) : St := mkT 36 [(1, .sc (.int .i64 p1)), (2, .sc (.int .i64 p2)), (9, .ref (12, 0) 0 x1.length), (19, .sc (.bool j0_0))] [((12, 0), some ⟨5, 1, List.map byteV x1, false, true⟩)]
set_option maxRecDepth 4000 in
set_option maxHeartbeats 800000 in
theorem wi_putBytes (p0 : List Int) (p1 : Int) (p2 : Int) (p3 : Int) (r0 : List Int) (h : i_putBytes p0 p1 p2 p3 = some r0) : Runs Tryz.prog 73 [.lst 1 (List.map byteV p0), .sc (.int .i64 p1), .sc (.int .i64 p2), .sc (.int .i64 p3)] [] (.own 5 1 (List.map byteV r0)) [] := by
 unfold i_putBytes at h
 refine runsR [.tmp 8] Tryz.func73 rfl rfl rfl rfl ?_
 rw [Tryz.ntmps73]
 refine tri_sr ?_
 refine s_mv (.inr rfl) (v := .nils) rfl rfl rfl rfl ?_
 refine rt_nil ?_
 refine tri_sr ?_
 refine m1 ?_
 refine bnd1_elim h fun x1 q2 h => ?_
 refine s_callN (kb := []) (ns := []) (v := .ref (12, 0) 0 x1.length) rfl rfl cl74 (wslices_Clone_byte p0 x1 q2) rfl (.cons (.free rfl) .nil) trivial memNil .nil memNil rfl ⟨(allSc_map byteV_sc), trivial⟩ memNil rfl (by simp only [V.mat, V.mat1, V.mat0, matL, matT, List.length_map] <;> rfl) rfl rfl rfl rfl ?_
 refine m2 ?_
 refine rt_nil ?_
 refine tri_seq ?_
 refine tri_cutI (ι := { p : Bool // i_putBytes_j0 p1 p2 x1 p = some r0 }) (fun p => inv_i_putBytes_0 p1 p2 x1 p.1) ?_ ?_
 ·skip
  refine tri_region ?_
  refine m1 ?_
  refine s_of (st_lss rfl rfl rfl) rfl rfl rfl rfl ?_
  refine m1 ?_
  refine s_split (t := 15) rfl (fun b3 => ?_) (fun b3 => ?_)
  ·replace h := cond_t h b3
   refine s_skip rfl rfl rfl ?_
   refine s_skip rfl rfl rfl ?_
   refine s_skip rfl rfl rfl ?_
   refine s_pickT rfl rfl (v := .sc (.bool true)) rfl rfl rfl rfl ?_
   refine rt_nil ?_
   refine Exists.intro ⟨true, h⟩ ?_
   refine entX [((12, 0), ⟨5, 1, List.map byteV x1, false, true⟩, some (12, 0))] [] ⟨⟨rfl, _, rfl, rfl, rfl, rfl, id, rowsCv_eq rfl (allFree_map byteV_free), rowsZ_map byteV_len⟩, trivial⟩ trivial rfl rfl ?_
   exact ⟨(.free rfl), (.free rfl), (.ref rfl), (.free rfl), trivial⟩
  ·replace h := cond_f h b3
   refine m1 ?_
   refine m1 ?_
   refine s_of (st_gtr rfl rfl rfl) rfl rfl rfl rfl ?_
   refine s_pickF rfl rfl (by conv => lhs; whnf) rfl rfl rfl ?_
   refine rt_nil ?_
   refine Exists.intro ⟨decide (p3 < p1), h⟩ ?_
   refine entX [((12, 0), ⟨5, 1, List.map byteV x1, false, true⟩, some (12, 0))] [] ⟨⟨rfl, _, rfl, rfl, rfl, rfl, id, rowsCv_eq rfl (allFree_map byteV_free), rowsZ_map byteV_len⟩, trivial⟩ trivial rfl rfl ?_
   exact ⟨(.free rfl), (.free rfl), (.ref rfl), (.free rfl), trivial⟩
 ·rintro ⟨j0_0, h⟩
  replace h : i_putBytes_j0 p1 p2 x1 j0_0 = some r0 := h
  unfold i_putBytes_j0 at h
  show Tri _ _ _ (inv_i_putBytes_0 p1 p2 x1 j0_0)
  refine tri_cond rfl (fun c3 => ?_) (fun c3 => ?_)
  ·replace h := cond_t h c3
   refine tri_sr ?_
   refine m1 ?_
   refine m2 ?_
   refine rt_nil ?_
   refine tri_ret ?_
   have e0 := (some1 h); subst e0
   exact endY (v' := .ref (2000, 0) 0 x1.length) [((2000, 0), ⟨5, 1, List.map byteV x1, false, true⟩, some (12, 0))] [] (rvC (resTmp rfl) rvN) ⟨⟨rfl, _, rfl, rfl, rfl, rfl, id, rowsCv_eq rfl (allFree_map byteV_free), rowsZ_map byteV_len⟩, trivial⟩ trivial rfl rfl (by kernel_rfl) (by simp only [V.mat, V.mat1, V.mat0, matL, matT, List.length_map] <;> rfl) (.ref rfl)
  ·replace h := cond_f h c3
   refine tri_skip ?_
   refine tri_seq ?_
   refine tri_sr ?_
   refine m1 ?_
   refine grd_elim h fun g4 h => ?_
   refine s_subI rfl rfl rfl rfl g4 rfl rfl rfl ?_
   refine m2 ?_
   refine rt_nil ?_
   refine tri_block ?_
   refine tri_loop (ι := { p : Nat × (List Int) × Int // i_putBytes_l1 p1 p.1 p.2.1 p.2.2 = some r0 }) (fun p => inv_i_putBytes_1 p1 p.1.2.1 p.1.2.2) (fun p => p.1.1) ⟨(fuel0, x1, p2 - 1), h⟩ ?_ ?_
   ·skip
    refine entX [((2009, 0), ⟨5, 1, List.map byteV x1, false, true⟩, some (12, 0))] [] ⟨⟨rfl, _, rfl, rfl, rfl, rfl, id, rowsCv_eq rfl (allFree_map byteV_free), rowsZ_map byteV_len⟩, trivial⟩ trivial rfl rfl ?_
    exact ⟨(.free rfl), (.ref rfl), (.free rfl), trivial⟩
   ·rintro ⟨⟨f1, v1_0, v1_1⟩, h⟩
    replace h : i_putBytes_l1 p1 f1 v1_0 v1_1 = some r0 := h
    cases f1 with
    | zero => cases h
    | succ f1 =>
    rw [i_putBytes_l1] at h
    show Tri _ _ _ (inv_i_putBytes_1 p1 v1_0 v1_1)
    refine tri_seq ?_
    refine tri_sr ?_
    refine m1 ?_
    refine s_of (st_geq rfl rfl rfl) rfl rfl rfl rfl ?_
    refine rt_nil ?_
    refine tri_cond rfl (fun c5 => ?_) (fun c5 => ?_)
    ·replace h := cond_t h c5
     refine tri_skip ?_
     refine tri_seq ?_
     refine tri_block ?_
     refine tri_region ?_
     refine m1 ?_
     refine m1 ?_
     refine m1 ?_
     refine grd_elim h fun g6 h => ?_
     refine s_mulI rfl rfl rfl rfl g6 rfl rfl rfl ?_
     refine grd_elim h fun g7 h => ?_
     refine s_of (st_shrZ g7 rfl rfl rfl) rfl rfl rfl rfl ?_
     refine s_of (st_conv ik3 ik5 rfl rfl) rfl rfl rfl rfl ?_
     refine s_buildSlice (rows' := List.map byteV [IntKind.u8.wrap (ishr .i64 p1 (8 * v1_1).toNat)]) rfl rfl rfl sl22 zc5 rfl rfl rfl rfl rfl rfl rfl rfl rfl ?_
     refine grd_elim h fun g8 h => ?_
     refine s_appL rfl rfl rfl sl22 zc5 rfl rfl rfl rfl rfl rfl (src_refL rfl rfl) g8 rfl rfl ?_
     refine m2 ?_
     refine rt_nil ?_
     refine tri_region ?_
     refine m1 ?_
     refine grd_elim h fun g9 h => ?_
     refine s_subI rfl rfl rfl rfl g9 rfl rfl rfl ?_
     refine m2 ?_
     refine rt_nil ?_
     refine Exists.intro ⟨(f1, v1_0 ++ [IntKind.u8.wrap (ishr .i64 p1 (8 * v1_1).toNat)], v1_1 - 1), h⟩ (And.intro (Nat.lt_succ_self _) ?_)
     refine entX [((2009, 0), ⟨5, 1, List.map byteV (v1_0 ++ [IntKind.u8.wrap (ishr .i64 p1 (8 * v1_1).toNat)]), false, true⟩, some (34, 0))] [] ⟨⟨rfl, _, rfl, rfl, rfl, rfl, id, rowsCv_eq rfl (allFree_map byteV_free), rowsZ_map byteV_len⟩, trivial⟩ trivial rfl rfl ?_
     exact ⟨(.free rfl), (.ref rfl), (.free rfl), trivial⟩
    ·replace h := cond_f h c5
     refine tri_exit ?_
     refine tri_sr ?_
     refine m1 ?_
     refine m2 ?_
     refine rt_nil ?_
     refine tri_ret ?_
     have e0 := (some1 h); subst e0
     exact endY (v' := .ref (2000, 0) 0 v1_0.length) [((2000, 0), ⟨5, 1, List.map byteV v1_0, false, true⟩, some (2009, 0))] [] (rvC (resTmp rfl) rvN) ⟨⟨rfl, _, rfl, rfl, rfl, rfl, id, rowsCv_eq rfl (allFree_map byteV_free), rowsZ_map byteV_len⟩, trivial⟩ trivial rfl rfl (by kernel_rfl) (by simp only [V.mat, V.mat1, V.mat0, matL, matT, List.length_map] <;> rfl) (.ref rfl)

/- impl.Put2 -/

set_option maxRecDepth 4000 in
set_option maxHeartbeats 800000 in
theorem wi_Put2 (p0 : List Int) (p1 : Int) (r0 : List Int) (h : i_Put2 p0 p1 = some r0) : Runs Tryz.prog 39 [.lst 1 (List.map byteV p0), .sc (.int .i64 p1)] [] (.own 5 1 (List.map byteV r0)) [] := by
 unfold i_Put2 at h
 refine runsR [.tmp 4] Tryz.func39 rfl rfl rfl rfl ?_
 rw [Tryz.ntmps39]
 refine tri_sr ?_
 refine s_mv (.inr rfl) (v := .nils) rfl rfl rfl rfl ?_
 refine rt_nil ?_
 refine tri_sr ?_
 refine m1 ?_
 refine m1 ?_
 refine bnd1_elim h fun x1 q2 h => ?_
 refine s_callN (kb := []) (ns := []) (v := .ref (7, 0) 0 x1.length) rfl rfl cl73 (wi_putBytes p0 p1 2 65535 x1 q2) rfl (.cons (.free rfl) (.cons (.free rfl) (.cons (.free rfl) (.cons (.free rfl) .nil)))) trivial memNil .nil memNil rfl ⟨(allSc_map byteV_sc), trivial⟩ memNil rfl (by simp only [V.mat, V.mat1, V.mat0, matL, matT, List.length_map] <;> rfl) rfl rfl rfl rfl ?_
 refine m2 ?_
 refine rt_nil ?_
 refine tri_ret ?_
 have e0 := (some1 h); subst e0
 exact endY (v' := .ref (2000, 0) 0 x1.length) [((2000, 0), ⟨5, 1, List.map byteV x1, false, true⟩, some (7, 0))] [] (rvC (resTmp rfl) rvN) ⟨⟨rfl, _, rfl, rfl, rfl, rfl, id, rowsCv_eq rfl (allFree_map byteV_free), rowsZ_map byteV_len⟩, trivial⟩ trivial rfl rfl (by kernel_rfl) (by simp only [V.mat, V.mat1, V.mat0, matL, matT, List.length_map] <;> rfl) (.ref rfl)

/- impl.bit -/

set_option maxRecDepth 4000 in
set_option maxHeartbeats 800000 in
theorem wi_bit (p0 : Bool) (p1 : Int) (r0 : Int) (h : i_bit p0 p1 = some r0) : Runs Tryz.prog 46 [.sc (.bool p0), .sc (.int .i64 p1)] [] (.sc (.int .i64 r0)) [] := by
 unfold i_bit at h
 refine runsR [.tmp 4] Tryz.func46 rfl rfl rfl rfl ?_
 rw [Tryz.ntmps46]
 refine tri_sr ?_
 refine s_mv (.inr rfl) (v := .sc (.int .i64 0)) rfl rfl rfl rfl ?_
 refine rt_nil ?_
 refine tri_seq ?_
 refine tri_sr ?_
 refine m1 ?_
 refine rt_nil ?_
 refine tri_cond rfl (fun c1 => ?_) (fun c1 => ?_)
 ·replace h := cond_t h c1
  refine tri_sr ?_
  refine m1 ?_
  refine m2 ?_
  refine rt_nil ?_
  refine tri_ret ?_
  have e0 := (some1 h); subst e0
  exact endY [] [] (rvC (resTmp rfl) rvN) trivial trivial rfl rfl rfl rfl (.free rfl)
 ·replace h := cond_f h c1
  refine tri_skip ?_
  refine tri_sr ?_
  refine s_mv (.inr rfl) (v := .sc (.int .i64 0)) rfl rfl rfl rfl ?_
  refine rt_nil ?_
  refine tri_ret ?_
  have e0 := (some1 h); subst e0
  exact endY [] [] (rvC (resTmp rfl) rvN) trivial trivial rfl rfl rfl rfl (.free rfl)

/- impl.PutHead -/
def inv_i_PutHead_0 (p0 : MMsg) (v0_0 : List Int) (v0_1 : Int) : St := mkT 56 [(3, .ref (2003, 0) 0 v0_0.length), (44, .ref (44, 0) 0 ([p0.an, p0.au, p0.ad].length)), (45, .sc (.int .i64 (3 : Int))), (46, .sc (.int .i64 v0_1))] [((2003, 0), some ⟨5, 1, List.map byteV v0_0, false, true⟩), ((44, 0), some ⟨26, 1, List.map recLV [p0.an, p0.au, p0.ad], false, true⟩)]
set_option maxRecDepth 4000 in
set_option maxHeartbeats 800000 in
theorem wi_PutHead (p0 : MMsg) (r0 : List Int) (h : i_PutHead p0 = some r0) : Runs Tryz.prog 15 [.agg (mMsgV p0)] [] (.own 5 1 (List.map byteV r0)) [] := by
 unfold i_PutHead at h
 refine runsR [.tmp 2] Tryz.func15 rfl rfl rfl rfl ?_
 rw [Tryz.ntmps15]
 refine tri_sr ?_
 refine s_box rfl rfl rfl rfl rfl rfl rfl ?_
 refine s_mv (.inr rfl) (v := .nils) rfl rfl rfl rfl ?_
 refine rt_nil ?_
 refine tri_sr ?_
 refine s_fieldAddr rfl rfl fd28_0 rfl rfl rfl rfl ?_
 refine s_load rfl rfl rfl rfl ty3 rfl (.inr rfl) (by conv => lhs; whnf) rfl rfl rfl ?_
 refine bnd1_elim h fun x1 q2 h => ?_
 refine s_callN (kb := []) (ns := []) (v := .ref (8, 0) 0 x1.length) rfl rfl cl39 (wi_Put2 ([] : List Int) p0.id x1 q2) rfl (.cons .nils (.cons (.free rfl) .nil)) trivial memNil .nil memNil rfl ⟨(allSc_map byteV_sc), trivial⟩ memNil rfl (by simp only [V.mat, V.mat1, V.mat0, matL, matT, List.length_map] <;> rfl) rfl rfl rfl rfl ?_
 refine m2 ?_
 refine rt_nil ?_
 refine tri_seq ?_
 refine tri_draw mixed ?_
 refine m1 ?_
 refine s_fieldAddr rfl rfl fd28_1 rfl rfl rfl rfl ?_
 refine s_load rfl rfl rfl rfl ty4 rfl (.inr rfl) (by conv => lhs; whnf) rfl rfl rfl ?_
 refine bnd1_elim h fun x3 q4 h => ?_
 refine s_callN (kb := []) (ns := []) (v := .sc (.int .i64 x3)) rfl rfl cl46 (wi_bit p0.reply 128 x3 q4) rfl (.cons (.free rfl) (.cons (.free rfl) .nil)) trivial memNil .nil memNil rfl trivial memNil rfl rfl rfl rfl rfl rfl ?_
 refine s_fieldAddr rfl rfl fd28_2 rfl rfl rfl rfl ?_
 refine s_load rfl rfl rfl rfl ty4 rfl (.inr rfl) (by conv => lhs; whnf) rfl rfl rfl ?_
 refine bnd1_elim h fun x5 q6 h => ?_
 refine s_callN (kb := []) (ns := []) (v := .sc (.int .i64 x5)) rfl rfl cl46 (wi_bit p0.auth 4 x5 q6) rfl (.cons (.free rfl) (.cons (.free rfl) .nil)) trivial memNil .nil memNil rfl trivial memNil rfl rfl rfl rfl rfl rfl ?_
 refine grd_elim h fun g7 h => ?_
 refine s_addI rfl rfl rfl rfl g7 rfl rfl rfl ?_
 refine s_fieldAddr rfl rfl fd28_3 rfl rfl rfl rfl ?_
 refine s_load rfl rfl rfl rfl ty4 rfl (.inr rfl) (by conv => lhs; whnf) rfl rfl rfl ?_
 refine bnd1_elim h fun x8 q9 h => ?_
 refine s_callN (kb := []) (ns := []) (v := .sc (.int .i64 x8)) rfl rfl cl46 (wi_bit p0.cut 2 x8 q9) rfl (.cons (.free rfl) (.cons (.free rfl) .nil)) trivial memNil .nil memNil rfl trivial memNil rfl rfl rfl rfl rfl rfl ?_
 refine grd_elim h fun g10 h => ?_
 refine s_addI rfl rfl rfl rfl g10 rfl rfl rfl ?_
 refine s_fieldAddr rfl rfl fd28_4 rfl rfl rfl rfl ?_
 refine s_load rfl rfl rfl rfl ty4 rfl (.inr rfl) (by conv => lhs; whnf) rfl rfl rfl ?_
 refine bnd1_elim h fun x11 q12 h => ?_
 refine s_callN (kb := []) (ns := []) (v := .sc (.int .i64 x11)) rfl rfl cl46 (wi_bit p0.want 1 x11 q12) rfl (.cons (.free rfl) (.cons (.free rfl) .nil)) trivial memNil .nil memNil rfl trivial memNil rfl rfl rfl rfl rfl rfl ?_
 refine grd_elim h fun g13 h => ?_
 refine s_addI rfl rfl rfl rfl g13 rfl rfl rfl ?_
 refine s_of (st_conv ik3 ik5 rfl rfl) rfl rfl rfl rfl ?_
 refine s_fieldAddr rfl rfl fd28_5 rfl rfl rfl rfl ?_
 refine s_load rfl rfl rfl rfl ty4 rfl (.inr rfl) (by conv => lhs; whnf) rfl rfl rfl ?_
 refine bnd1_elim h fun x14 q15 h => ?_
 refine s_callN (kb := []) (ns := []) (v := .sc (.int .i64 x14)) rfl rfl cl46 (wi_bit p0.can 128 x14 q15) rfl (.cons (.free rfl) (.cons (.free rfl) .nil)) trivial memNil .nil memNil rfl trivial memNil rfl rfl rfl rfl rfl rfl ?_
 refine s_fieldAddr rfl rfl fd28_6 rfl rfl rfl rfl ?_
 refine s_load rfl rfl rfl rfl ty3 rfl (.inr rfl) (by conv => lhs; whnf) rfl rfl rfl ?_
 refine s_of (st_andD rfl rfl rfl) rfl rfl rfl rfl ?_
 refine grd_elim h fun g16 h => ?_
 refine s_addI rfl rfl rfl rfl g16 rfl rfl rfl ?_
 refine s_of (st_conv ik3 ik5 rfl rfl) rfl rfl rfl rfl ?_
 refine s_buildSlice (rows' := List.map byteV [IntKind.u8.wrap (((x3 + x5) + x8) + x11), IntKind.u8.wrap (x14 + (iand .i64 p0.code 15))]) rfl rfl rfl sl22 zc5 rfl rfl rfl rfl rfl rfl rfl rfl rfl ?_
 refine grd_elim h fun g17 h => ?_
 refine s_appL rfl rfl rfl sl22 zc5 rfl rfl rfl rfl rfl rfl (src_refL rfl rfl) g17 rfl rfl ?_
 refine m2 ?_
 refine rt_nil ⟨by kernel_rfl, ?_⟩
 refine tri_sr ?_
 refine m1 ?_
 refine bnd1_elim h fun x18 q19 h => ?_
 refine s_callN (kb := [(35, 0)]) (ns := []) (v := .ref (37, 0) 0 x18.length) rfl rfl cl39 (wi_Put2 (x1 ++ [IntKind.u8.wrap (((x3 + x5) + x8) + x11), IntKind.u8.wrap (x14 + (iand .i64 p0.code 15))]) 1 x18 q19) rfl (.cons (lendL rfl (.head _) rfl byteV_free byteV_len) (.cons (.free rfl) .nil)) trivial memNil .nil (fun _ _ => List.not_mem_nil) rfl ⟨(allSc_map byteV_sc), trivial⟩ memNil rfl (by simp only [V.mat, V.mat1, V.mat0, matL, matT, List.length_map] <;> rfl) rfl rfl rfl rfl ?_
 refine m2 ?_
 refine rt_nil ?_
 refine tri_seq ?_
 refine tri_sr ?_
 refine s_fieldAddr rfl rfl fd28_8 rfl rfl rfl rfl ?_
 refine s_load rfl rfl rfl rfl ty26 rfl (.inr rfl) (by conv => lhs; whnf) rfl rfl rfl ?_
 refine s_fieldAddr rfl rfl fd28_9 rfl rfl rfl rfl ?_
 refine s_load rfl rfl rfl rfl ty26 rfl (.inr rfl) (by conv => lhs; whnf) rfl rfl rfl ?_
 refine s_fieldAddr rfl rfl fd28_10 rfl rfl rfl rfl ?_
 refine s_load rfl rfl rfl rfl ty26 rfl (.inr rfl) (by conv => lhs; whnf) rfl rfl rfl ?_
 refine s_buildSlice (rows' := List.map recLV [p0.an, p0.au, p0.ad]) rfl rfl rfl sl58 zc26 rfl rfl rfl rfl rfl rfl rfl rfl rfl ?_
 refine s_len (m := 3) rfl sl58 rfl rfl rfl rfl ?_
 refine s_mv (.inl rfl) (v := .sc (.int .i64 0)) rfl rfl rfl rfl ?_
 refine rt_nil ?_
 refine tri_block ?_
 refine tri_loop (ι := { p : Nat × (List Int) × Int // i_PutHead_l0 p0 p.1 p.2.1 p.2.2 = some r0 }) (fun p => inv_i_PutHead_0 p0 p.1.2.1 p.1.2.2) (fun p => p.1.1) ⟨(fuel0, x18, 0), h⟩ ?_ ?_
 ·skip
  refine entX [((2003, 0), ⟨5, 1, List.map byteV x18, false, true⟩, some (37, 0)), ((44, 0), ⟨26, 1, List.map recLV [p0.an, p0.au, p0.ad], false, true⟩, some (44, 0))] [] ⟨⟨rfl, _, rfl, rfl, rfl, rfl, id, rowsCv_eq rfl (allFree_map byteV_free), rowsZ_map byteV_len⟩, ⟨rfl, _, rfl, rfl, rfl, rfl, id, rowsCv_eq rfl (allFree_map recLV_free), rowsZ_map recLV_len⟩, trivial⟩ trivial rfl rfl ?_
  exact ⟨(.ref rfl), (.ref rfl), (.free rfl), (.free rfl), trivial⟩
 ·rintro ⟨⟨f0, v0_0, v0_1⟩, h⟩
  replace h : i_PutHead_l0 p0 f0 v0_0 v0_1 = some r0 := h
  cases f0 with
  | zero => cases h
  | succ f0 =>
  rw [i_PutHead_l0] at h
  show Tri _ _ _ (inv_i_PutHead_0 p0 v0_0 v0_1)
  refine tri_sr ?_
  refine s_of (st_lss rfl rfl rfl) rfl rfl rfl rfl ?_
  refine rt_nil ?_
  refine tri_seq ?_
  refine tri_cond rfl (fun c20 => ?_) (fun c20 => ?_)
  ·replace h := cond_t h c20
   refine tri_skip ?_
   refine tri_seq ?_
   refine tri_block ?_
   refine tri_sr ?_
   refine bnd1_elim h fun x21 q22 h => ?_
   have q22a := (idx_some q22).1; have q22b := (idx_some q22).2
   refine s_indexZ rfl rfl rfl rfl sl58 rfl q22a (get_lt q22b) rfl rfl rfl ?_
   refine s_load rfl rfl rfl (rowG q22b) ty26 rfl (.inr rfl) (by conv => lhs; whnf) rfl rfl rfl ?_
   refine m2 ?_
   refine rt_nil ?_
   refine tri_region ?_
   refine m1 ?_
   refine m1 ?_
   refine s_lenL rfl sl26 rfl rfl rfl rfl ?_
   refine bnd1_elim h fun x23 q24 h => ?_
   refine s_callN (kb := [(2003, 0)]) (ns := []) (v := .ref (53, 0) 0 x23.length) rfl rfl cl39 (wi_Put2 v0_0 (x21.length : Int) x23 q24) rfl (.cons (lendL rfl (.head _) rfl byteV_free byteV_len) (.cons (.free rfl) .nil)) trivial memNil .nil (fun _ _ => List.not_mem_nil) rfl ⟨(allSc_map byteV_sc), trivial⟩ memNil rfl (by simp only [V.mat, V.mat1, V.mat0, matL, matT, List.length_map] <;> rfl) rfl rfl rfl rfl ?_
   refine m2 ?_
   refine rt_nil ?_
   refine tri_region ?_
   refine grd_elim h fun g25 h => ?_
   refine s_addI rfl rfl rfl rfl g25 rfl rfl rfl ?_
   refine m1 ?_
   refine rt_nil ?_
   refine Exists.intro ⟨(f0, x23, v0_1 + 1), h⟩ (And.intro (Nat.lt_succ_self _) ?_)
   refine entX [((2003, 0), ⟨5, 1, List.map byteV x23, false, true⟩, some (53, 0)), ((44, 0), ⟨26, 1, List.map recLV [p0.an, p0.au, p0.ad], false, true⟩, some (44, 0))] [] ⟨⟨rfl, _, rfl, rfl, rfl, rfl, id, rowsCv_eq rfl (allFree_map byteV_free), rowsZ_map byteV_len⟩, ⟨rfl, _, rfl, rfl, rfl, rfl, id, rowsCv_eq rfl (allFree_map recLV_free), rowsZ_map recLV_len⟩, trivial⟩ trivial rfl rfl ?_
   exact ⟨(.ref rfl), (.ref rfl), (.free rfl), (.free rfl), trivial⟩
  ·replace h := cond_f h c20
   refine tri_exit ?_
   refine tri_sr ?_
   refine m1 ?_
   refine m2 ?_
   refine rt_nil ?_
   refine tri_ret ?_
   have e0 := (some1 h); subst e0
   exact endY (v' := .ref (2000, 0) 0 v0_0.length) [((2000, 0), ⟨5, 1, List.map byteV v0_0, false, true⟩, some (2003, 0))] [] (rvC (resTmp rfl) rvN) ⟨⟨rfl, _, rfl, rfl, rfl, rfl, id, rowsCv_eq rfl (allFree_map byteV_free), rowsZ_map byteV_len⟩, trivial⟩ trivial rfl rfl (by kernel_rfl) (by simp only [V.mat, V.mat1, V.mat0, matL, matT, List.length_map] <;> rfl) (.ref rfl)

/- strings.Join -/

theorem wstrings_Join (p0 : List ByteArray) (p1 : ByteArray) (r0 : ByteArray) (h : strings_Join p0 p1 = some r0) : Runs Tryz.prog 137 [.lst 1 (List.map strV p0), .sc (.string p1)] [] (.sc (.string r0)) [] := by
 unfold strings_Join at h
 refine grd_elim h fun g h => ?_
 have e0 := (some1 h); subst e0
 exact runs_join (g := joinB) (fun a c w _ => Any.strings_Join_none Tryz.lays156 Tryz.extra156 a c p1 w) (fun bk o c w hc hb hl _ => Any.strings_Join Tryz.lays156 Tryz.extra156 bk o c p0 p1 w hc hb g.1 hl g.2)

/- impl.JoinLabels -/

set_option maxRecDepth 4000 in
set_option maxHeartbeats 800000 in
theorem wi_JoinLabels (p0 : List ByteArray) (r0 : ByteArray) (h : i_JoinLabels p0 = some r0) : Runs Tryz.prog 116 [.lst 1 (List.map strV p0)] [] (.sc (.string r0)) [] := by
 unfold i_JoinLabels at h
 refine runsR [.tmp 2] Tryz.func116 rfl rfl rfl rfl ?_
 rw [Tryz.ntmps116]
 refine tri_sr ?_
 refine s_mv (.inr rfl) (v := .sc (.string (⟨#[]⟩ : ByteArray))) rfl rfl rfl rfl ?_
 refine rt_nil ?_
 refine tri_sr ?_
 refine m1 ?_
 refine bnd1_elim h fun x1 q2 h => ?_
 refine s_callN (kb := []) (ns := []) (v := .sc (.string x1)) rfl rfl cl137 (wstrings_Join p0 (⟨#[46]⟩ : ByteArray) x1 q2) rfl (.cons (.free rfl) (.cons (.free rfl) .nil)) trivial memNil .nil memNil rfl trivial memNil rfl rfl rfl rfl rfl rfl ?_
 refine m2 ?_
 refine rt_nil ?_
 refine tri_ret ?_
 have e0 := (some1 h); subst e0
 exact endY [] [] (rvC (resTmp rfl) rvN) trivial trivial rfl rfl rfl rfl (.free rfl)

/- impl.Above -/
def inv_i_Above_1 (x1 : List ByteArray) (v1_0 : List ByteArray) (v1_1 : Nat) : St := mkT 25 [(3, .ref (2003, 0) 0 v1_0.length), (4, .ref (8, 0) 0 x1.length), (10, .sc (.int .i64 (x1.length : Int))), (11, .sc (.int .i64 (v1_1 : Int)))] [((2003, 0), some ⟨9, 1, List.map strV v1_0, false, true⟩), ((8, 0), some ⟨9, 1, List.map strV x1, false, true⟩)]
def inv_i_Above_0  (j0_0 : List ByteArray) : St := mkT 25 [(3, .ref (2003, 0) 0 j0_0.length)] [((2003, 0), some ⟨9, 1, List.map strV j0_0, false, true⟩)]
set_option maxRecDepth 4000 in
set_option maxHeartbeats 800000 in
theorem wi_Above (p0 : ByteArray) (r0 : List ByteArray) (h : i_Above p0 = some r0) : Runs Tryz.prog 77 [.sc (.string p0)] [] (.own 9 1 (List.map strV r0)) [] := by
 unfold i_Above at h
 refine runsR [.tmp 2] Tryz.func77 rfl rfl rfl rfl ?_
 rw [Tryz.ntmps77]
 refine tri_sr ?_
 refine s_mv (.inr rfl) (v := .nils) rfl rfl rfl rfl ?_
 refine rt_nil ?_
 refine tri_sr ?_
 refine s_buildSlice (rows' := List.map strV ([] : List ByteArray)) rfl rfl rfl sl91 zc9 rfl rfl rfl rfl rfl rfl rfl rfl rfl ?_
 refine m2 ?_
 refine rt_nil ?_
 refine tri_sr ?_
 refine m1 ?_
 refine bnd1_elim h fun x1 q2 h => ?_
 refine s_callN (kb := []) (ns := []) (v := .ref (8, 0) 0 x1.length) rfl rfl cl76 (wi_Labels p0 x1 q2) rfl (.cons (.free rfl) .nil) trivial memNil .nil memNil rfl ⟨(allSc_map strV_sc), trivial⟩ memNil rfl (by simp only [V.mat, V.mat1, V.mat0, matL, matT, List.length_map] <;> rfl) rfl rfl rfl rfl ?_
 refine m2 ?_
 refine rt_nil ?_
 refine tri_cutI (ι := { p : (List ByteArray) // i_Above_j0 p = some r0 }) (fun p => inv_i_Above_0 p.1) ?_ ?_
 ·skip
  refine tri_sr ?_
  refine m1 ?_
  refine s_len (m := x1.length) rfl sl91 rfl rfl rfl rfl ?_
  refine s_mv (.inl rfl) (v := .sc (.int .i64 0)) rfl rfl rfl rfl ?_
  refine rt_nil ?_
  refine tri_block ?_
  refine tri_ownM (8, 0) rfl (fun hl1 => ?_)
  refine tri_loop (ι := { p : (List ByteArray) × (List ByteArray) × Nat // x1.drop p.2.2 = p.1 ∧ i_Above_l1 x1 p.1 p.2.1 p.2.2 = some r0 }) (fun p => inv_i_Above_1 x1 p.1.2.1 p.1.2.2) (fun p => p.1.1.length) ⟨(x1, ([] : List ByteArray), 0), rfl, h⟩ ?_ ?_
  ·skip
   refine entX [((2003, 0), ⟨9, 1, List.map strV ([] : List ByteArray), false, true⟩, some (6, 0)), ((8, 0), ⟨9, 1, List.map strV x1, false, true⟩, some (8, 0))] [] ⟨⟨rfl, _, rfl, rfl, rfl, rfl, id, rowsCv_eq rfl (allFree_map strV_free), rowsZ_map strV_len⟩, ⟨rfl, _, rfl, rfl, rfl, rfl, id, rowsCv_eq rfl (allFree_map strV_free), rowsZ_map strV_len⟩, trivial⟩ trivial rfl rfl ?_
   exact ⟨(.ref rfl), (.ref rfl), (.free rfl), (.free rfl), trivial⟩
  ·rintro ⟨⟨lrs1, v1_0, v1_1⟩, hd1, h⟩
   replace hd1 : x1.drop v1_1 = lrs1 := hd1
   replace h : i_Above_l1 x1 lrs1 v1_0 v1_1 = some r0 := h
   show Tri _ _ _ (inv_i_Above_1 x1 v1_0 v1_1)
   refine tri_sr ?_
   refine s_of (st_lss rfl rfl rfl) rfl rfl rfl rfl ?_
   refine rt_nil ?_
   refine tri_seq ?_
   refine tri_cond rfl (fun c3 => ?_) (fun c3 => ?_)
   ·refine drop_elim hd1 c3 fun e1 rs1 he hx1 hn1 => ?_
    subst he
    rw [i_Above_l1] at h
    refine tri_skip ?_
    refine tri_seq ?_
    refine tri_block ?_
    refine tri_sr ?_
    refine m1 ?_
    refine m2 ?_
    refine rt_nil ?_
    refine tri_region ?_
    refine m1 ?_
    refine m1 ?_
    refine m1 ?_
    refine grd_elim h fun g4 h => ?_
    refine s_sliceZ (a := (v1_1 : Int)) (b := (x1.length : Int)) rfl rfl rfl sl91 rfl ⟨_, rfl⟩ rfl g4 rfl rfl rfl ?_
    refine bnd1_elim h fun x5 q6 h => ?_
    refine s_callN (kb := [(8, 0)]) (ns := []) (v := .sc (.string x5)) rfl rfl cl116 (wi_JoinLabels ((x1.drop (0 + (v1_1 : Int).toNat)).take ((x1.length : Int).toNat - (v1_1 : Int).toNat)) x5 q6) rfl (.cons (lendV rfl (.head _) (by first | omega | (simp only [List.length_set]; omega)) strV_free strV_len) .nil) trivial memNil .nil (fun _ _ => List.not_mem_nil) rfl trivial memNil rfl rfl rfl rfl rfl rfl ?_
    refine s_buildSlice (rows' := List.map strV [x5]) rfl rfl rfl sl91 zc9 rfl rfl rfl rfl rfl rfl rfl rfl rfl ?_
    refine grd_elim h fun g7 h => ?_
    refine s_appL rfl rfl rfl sl91 zc9 rfl rfl rfl rfl rfl rfl (src_refL rfl rfl) g7 rfl rfl ?_
    refine m2 ?_
    refine rt_nil ?_
    refine tri_region ?_
    refine s_inc (a := v1_1) (b := 1) rfl rfl rfl rfl (by have := get_lt hx1; have := hl1; omega) rfl rfl rfl ?_
    refine m1 ?_
    refine rt_nil ?_
    refine Exists.intro ⟨(rs1, v1_0 ++ [x5], (v1_1 + 1)), hn1, h⟩ (And.intro (Nat.lt_succ_self _) ?_)
    refine entX [((2003, 0), ⟨9, 1, List.map strV (v1_0 ++ [x5]), false, true⟩, some (20, 0)), ((8, 0), ⟨9, 1, List.map strV x1, false, true⟩, some (8, 0))] [] ⟨⟨rfl, _, rfl, rfl, rfl, rfl, id, rowsCv_eq rfl (allFree_map strV_free), rowsZ_map strV_len⟩, ⟨rfl, _, rfl, rfl, rfl, rfl, id, rowsCv_eq rfl (allFree_map strV_free), rowsZ_map strV_len⟩, trivial⟩ trivial rfl rfl ?_
    exact ⟨(.ref rfl), (.ref rfl), (.free rfl), (.free rfl), trivial⟩
   ·have he := drop_f hd1 c3; subst he
    rw [i_Above_l1] at h
    refine tri_exit ?_
    refine Exists.intro ⟨v1_0, h⟩ ?_
    refine entX [((2003, 0), ⟨9, 1, List.map strV v1_0, false, true⟩, some (2003, 0))] [] ⟨⟨rfl, _, rfl, rfl, rfl, rfl, id, rowsCv_eq rfl (allFree_map strV_free), rowsZ_map strV_len⟩, trivial⟩ trivial rfl rfl ?_
    exact ⟨(.ref rfl), trivial⟩
 ·rintro ⟨j0_0, h⟩
  replace h : i_Above_j0 j0_0 = some r0 := h
  unfold i_Above_j0 at h
  show Tri _ _ _ (inv_i_Above_0 j0_0)
  refine tri_sr ?_
  refine m1 ?_
  refine s_buildSlice (rows' := List.map strV [(⟨#[]⟩ : ByteArray)]) rfl rfl rfl sl91 zc9 rfl rfl rfl rfl rfl rfl rfl rfl rfl ?_
  refine grd_elim h fun g3 h => ?_
  refine s_appL rfl rfl rfl sl91 zc9 rfl rfl rfl rfl rfl rfl (src_refL rfl rfl) g3 rfl rfl ?_
  refine m2 ?_
  refine rt_nil ?_
  refine tri_ret ?_
  have e0 := (some1 h); subst e0
  exact endY (v' := .ref (2000, 0) 0 ((j0_0 ++ ([(⟨#[]⟩ : ByteArray)])).length)) [((2000, 0), ⟨9, 1, List.map strV (j0_0 ++ ([(⟨#[]⟩ : ByteArray)])), false, true⟩, some (24, 0))] [] (rvC (resTmp rfl) rvN) ⟨⟨rfl, _, rfl, rfl, rfl, rfl, id, rowsCv_eq rfl (allFree_map strV_free), rowsZ_map strV_len⟩, trivial⟩ trivial rfl rfl (by kernel_rfl) (by simp only [V.mat, V.mat1, V.mat0, matL, matT, List.length_map] <;> rfl) (.ref rfl)

/- impl.Fold -/
def inv_i_Fold_2 (p0 : ByteArray) (v1_0 : List Int) (v1_1 : Nat) (x3 : Int) (j2_0 : Bool) : St := mkT 30 [(3, .ref (7, 0) 0 v1_0.length), (4, .sc (.int .i64 (v1_1 : Int))), (5, .sc (.int .u8 x3)), (8, .ref (7, 0) 0 v1_0.length), (9, .sc (.int .i64 ((bytesOf p0).length : Int))), (10, .sc (.int .i64 (v1_1 : Int))), (20, .sc (.bool j2_0))] [((7, 0), some ⟨5, 1, List.map byteV v1_0, true, true⟩)]
def inv_i_Fold_1 (p0 : ByteArray) (v1_0 : List Int) (v1_1 : Nat) : St := mkT 30 [(3, .ref (7, 0) 0 v1_0.length), (8, .ref (7, 0) 0 v1_0.length), (9, .sc (.int .i64 ((bytesOf p0).length : Int))), (10, .sc (.int .i64 (v1_1 : Int)))] [((7, 0), some ⟨5, 1, List.map byteV v1_0, true, true⟩)]
def inv_i_Fold_0  (j0_0 : List Int) : St := mkT 30 [(3, .ref (7, 0) 0 j0_0.length)] [((7, 0), some ⟨5, 1, List.map byteV j0_0, true, true⟩)]
set_option maxRecDepth 4000 in
set_option maxHeartbeats 800000 in
theorem wi_Fold (p0 : ByteArray) (r0 : ByteArray) (h : i_Fold p0 = some r0) : Runs Tryz.prog 141 [.sc (.string p0)] [] (.sc (.string r0)) [] := by
 unfold i_Fold at h
 refine runsR [.tmp 2] Tryz.func141 rfl rfl rfl rfl ?_
 rw [Tryz.ntmps141]
 refine tri_sr ?_
 refine s_mv (.inr rfl) (v := .sc (.string (⟨#[]⟩ : ByteArray))) rfl rfl rfl rfl ?_
 refine rt_nil ?_
 refine tri_sr ?_
 refine m1 ?_
 refine grd_elim h fun g1 h => ?_
 refine s_toBytesL rfl rfl rfl rfl iss9 byt22 g1 rfl rfl ?_
 refine m2 ?_
 refine rt_nil ?_
 refine tri_cutI (ι := { p : (List Int) // i_Fold_j0 p = some r0 }) (fun p => inv_i_Fold_0 p.1) ?_ ?_
 ·skip
  refine tri_sr ?_
  refine m1 ?_
  refine s_len (m := (bytesOf p0).length) rfl sl22 rfl rfl rfl rfl ?_
  refine s_mv (.inl rfl) (v := .sc (.int .i64 0)) rfl rfl rfl rfl ?_
  refine rt_nil ?_
  refine tri_block ?_
  refine tri_ownM (7, 0) rfl (fun hl1 => ?_)
  refine tri_loop (ι := { p : (List Int) × (List Int) × Nat // (bytesOf p0).drop p.2.2 = p.1 ∧ i_Fold_l1 p.1 p.2.1 p.2.2 = some r0 }) (fun p => inv_i_Fold_1 p0 p.1.2.1 p.1.2.2) (fun p => p.1.1.length) ⟨((bytesOf p0), bytesOf p0, 0), rfl, h⟩ ?_ ?_
  ·skip
   refine entX [((7, 0), ⟨5, 1, List.map byteV (bytesOf p0), true, true⟩, some (7, 0))] [] ⟨⟨rfl, _, rfl, rfl, rfl, rfl, id, rowsCv_eq rfl (allFree_map byteV_free), rowsZ_map byteV_len⟩, trivial⟩ trivial rfl rfl ?_
   exact ⟨(.ref rfl), (.ref rfl), (.free rfl), (.free rfl), trivial⟩
  ·rintro ⟨⟨lrs1, v1_0, v1_1⟩, hd1, h⟩
   replace hd1 : (bytesOf p0).drop v1_1 = lrs1 := hd1
   replace h : i_Fold_l1 lrs1 v1_0 v1_1 = some r0 := h
   show Tri _ _ _ (inv_i_Fold_1 p0 v1_0 v1_1)
   refine tri_sr ?_
   refine s_of (st_lss rfl rfl rfl) rfl rfl rfl rfl ?_
   refine rt_nil ?_
   refine tri_seq ?_
   refine tri_cond rfl (fun c2 => ?_) (fun c2 => ?_)
   ·refine drop_elim hd1 c2 fun e1 rs1 he hx1 hn1 => ?_
    subst he
    rw [i_Fold_l1] at h
    refine tri_skip ?_
    refine tri_seq ?_
    refine tri_block ?_
    refine tri_sr ?_
    refine m1 ?_
    refine bnd1_elim h fun x3 q4 h => ?_
    have q4a := (idx_some q4).1; have q4b := (idx_some q4).2
    refine s_indexZ rfl rfl rfl rfl sl22 rfl q4a (get_lt q4b) rfl rfl rfl ?_
    refine s_load rfl rfl rfl (rowG q4b) ty5 rfl (.inr rfl) (by conv => lhs; whnf) rfl rfl rfl ?_
    refine m2 ?_
    refine m2 ?_
    refine rt_nil ?_
    refine tri_cutI (ι := { p : Bool // i_Fold_j2 v1_0 v1_1 x3 (i_Fold_l1 rs1) p = some r0 }) (fun p => inv_i_Fold_2 p0 v1_0 v1_1 x3 p.1) ?_ ?_
    ·skip
     refine tri_region ?_
     refine m1 ?_
     refine s_of (st_geq rfl rfl rfl) rfl rfl rfl rfl ?_
     refine m1 ?_
     refine s_split (t := 17) rfl (fun b5 => ?_) (fun b5 => ?_)
     ·replace h := cond_t h b5
      refine m1 ?_
      refine s_of (st_leq rfl rfl rfl) rfl rfl rfl rfl ?_
      refine s_pickT rfl rfl (by conv => lhs; whnf) rfl rfl rfl ?_
      refine rt_nil ?_
      refine Exists.intro ⟨decide (x3 ≤ 90), h⟩ ?_
      refine entX [((7, 0), ⟨5, 1, List.map byteV v1_0, true, true⟩, some (7, 0))] [] ⟨⟨rfl, _, rfl, rfl, rfl, rfl, id, rowsCv_eq rfl (allFree_map byteV_free), rowsZ_map byteV_len⟩, trivial⟩ trivial rfl rfl ?_
      exact ⟨(.ref rfl), (.free rfl), (.free rfl), (.ref rfl), (.free rfl), (.free rfl), (.free rfl), trivial⟩
     ·replace h := cond_f h b5
      refine s_skip rfl rfl rfl ?_
      refine s_skip rfl rfl rfl ?_
      refine s_pickF rfl rfl (v := .sc (.bool false)) rfl rfl rfl rfl ?_
      refine rt_nil ?_
      refine Exists.intro ⟨false, h⟩ ?_
      refine entX [((7, 0), ⟨5, 1, List.map byteV v1_0, true, true⟩, some (7, 0))] [] ⟨⟨rfl, _, rfl, rfl, rfl, rfl, id, rowsCv_eq rfl (allFree_map byteV_free), rowsZ_map byteV_len⟩, trivial⟩ trivial rfl rfl ?_
      exact ⟨(.ref rfl), (.free rfl), (.free rfl), (.ref rfl), (.free rfl), (.free rfl), (.free rfl), trivial⟩
    ·rintro ⟨j2_0, h⟩
     replace h : i_Fold_j2 v1_0 v1_1 x3 (i_Fold_l1 rs1) j2_0 = some r0 := h
     unfold i_Fold_j2 at h
     show Tri _ _ _ (inv_i_Fold_2 p0 v1_0 v1_1 x3 j2_0)
     refine tri_cond rfl (fun c5 => ?_) (fun c5 => ?_)
     ·replace h := cond_t h c5
      refine tri_region ?_
      refine m1 ?_
      refine m1 ?_
      refine m1 ?_
      refine s_of (st_add rfl rfl rfl) rfl rfl rfl rfl ?_
      refine s_of (st_sub rfl rfl rfl) rfl rfl rfl rfl ?_
      refine s_indexZ rfl rfl rfl rfl sl22 rfl q4a (get_lt q4b) rfl rfl rfl ?_
      refine s_storeL (x' := IntKind.u8.wrap ((IntKind.u8.wrap (x3 + 97)) - 65)) rfl rfl rfl q4b ty5 rfl rfl rfl rfl rfl rfl ?_
      refine rt_nil ?_
      refine tri_region ?_
      refine s_inc (a := v1_1) (b := 1) rfl rfl rfl rfl (by have := get_lt hx1; have := hl1; omega) rfl rfl rfl ?_
      refine m1 ?_
      refine rt_nil ?_
      refine Exists.intro ⟨(rs1, v1_0.set ((v1_1 : Int).toNat) (IntKind.u8.wrap ((IntKind.u8.wrap (x3 + 97)) - 65)), (v1_1 + 1)), hn1, h⟩ (And.intro (Nat.lt_succ_self _) ?_)
      refine entX [((7, 0), ⟨5, 1, List.map byteV (v1_0.set ((v1_1 : Int).toNat) (IntKind.u8.wrap ((IntKind.u8.wrap (x3 + 97)) - 65))), true, true⟩, some (7, 0))] [] ⟨⟨rfl, _, rfl, rfl, rfl, rfl, id, rowsCv_eq rfl (allFree_map byteV_free), rowsZ_map byteV_len⟩, trivial⟩ trivial rfl rfl ?_
      exact ⟨(cvRefLen rfl (by simp only [List.length_set])), (cvRefLen rfl (by simp only [List.length_set])), (.free rfl), (.free rfl), trivial⟩
     ·replace h := cond_f h c5
      refine tri_skip ?_
      refine tri_region ?_
      refine s_inc (a := v1_1) (b := 1) rfl rfl rfl rfl (by have := get_lt hx1; have := hl1; omega) rfl rfl rfl ?_
      refine m1 ?_
      refine rt_nil ?_
      refine Exists.intro ⟨(rs1, v1_0, (v1_1 + 1)), hn1, h⟩ (And.intro (Nat.lt_succ_self _) ?_)
      refine entX [((7, 0), ⟨5, 1, List.map byteV v1_0, true, true⟩, some (7, 0))] [] ⟨⟨rfl, _, rfl, rfl, rfl, rfl, id, rowsCv_eq rfl (allFree_map byteV_free), rowsZ_map byteV_len⟩, trivial⟩ trivial rfl rfl ?_
      exact ⟨(.ref rfl), (.ref rfl), (.free rfl), (.free rfl), trivial⟩
   ·have he := drop_f hd1 c2; subst he
    rw [i_Fold_l1] at h
    refine tri_exit ?_
    refine Exists.intro ⟨v1_0, h⟩ ?_
    refine entX [((7, 0), ⟨5, 1, List.map byteV v1_0, true, true⟩, some (7, 0))] [] ⟨⟨rfl, _, rfl, rfl, rfl, rfl, id, rowsCv_eq rfl (allFree_map byteV_free), rowsZ_map byteV_len⟩, trivial⟩ trivial rfl rfl ?_
    exact ⟨(.ref rfl), trivial⟩
 ·rintro ⟨j0_0, h⟩
  replace h : i_Fold_j0 j0_0 = some r0 := h
  unfold i_Fold_j0 at h
  show Tri _ _ _ (inv_i_Fold_0 j0_0)
  refine tri_sr ?_
  refine m1 ?_
  refine s_toString rfl (src_refL rfl rfl) byt22 iss9 rfl rfl rfl rfl ?_
  refine m2 ?_
  refine rt_nil ?_
  refine tri_ret ?_
  have e0 := (some1 h); subst e0
  exact endY [] [] (rvC (resTmp rfl) rvN) trivial trivial rfl rfl rfl rfl (.free rfl)

/- impl.GetLabel -/
def inv_i_GetLabel_0 (p0 : List Int) (p1 : Int) (j0_0 : Bool) : St := mkT 56 [(0, .lst 1 (List.map byteV p0)), (1, .sc (.int .i64 p1)), (35, .sc (.bool j0_0))] []
set_option maxRecDepth 4000 in
set_option maxHeartbeats 800000 in
theorem wi_GetLabel (p0 : List Int) (p1 : Int) (r0 : ByteArray) (r1 : Int) (r2 : Bool) (h : i_GetLabel p0 p1 = some (r0, r1, r2)) : Runs Tryz.prog 128 [.lst 1 (List.map byteV p0), .sc (.int .i64 p1)] [] (.tup [.sc (.string r0), .sc (.int .i64 r1), .sc (.bool r2)]) [] := by
 unfold i_GetLabel at h
 refine runsR [.tmp 4, .tmp 5, .tmp 6] Tryz.func128 rfl rfl rfl rfl ?_
 rw [Tryz.ntmps128]
 refine tri_sr ?_
 refine s_mv (.inr rfl) (v := .sc (.string (⟨#[]⟩ : ByteArray))) rfl rfl rfl rfl ?_
 refine s_mv (.inr rfl) (v := .sc (.int .i64 0)) rfl rfl rfl rfl ?_
 refine s_mv (.inr rfl) (v := .sc (.bool false)) rfl rfl rfl rfl ?_
 refine rt_nil ?_
 refine tri_seq ?_
 refine tri_cutI (ι := { p : Bool // i_GetLabel_j0 p0 p1 p = some (r0, r1, r2) }) (fun p => inv_i_GetLabel_0 p0 p1 p.1) ?_ ?_
 ·skip
  refine tri_region ?_
  refine m1 ?_
  refine s_of (st_lss rfl rfl rfl) rfl rfl rfl rfl ?_
  refine m1 ?_
  refine s_split (t := 11) rfl (fun b1 => ?_) (fun b1 => ?_)
  ·replace h := cond_t h b1
   refine s_skip rfl rfl rfl ?_
   refine s_skip rfl rfl rfl ?_
   refine s_skip rfl rfl rfl ?_
   refine s_skip rfl rfl rfl ?_
   refine s_pickT rfl rfl (v := .sc (.bool true)) rfl rfl rfl rfl ?_
   refine m1 ?_
   refine s_skip rfl rfl rfl ?_
   refine s_skip rfl rfl rfl ?_
   refine s_skip rfl rfl rfl ?_
   refine s_skip rfl rfl rfl ?_
   refine s_skip rfl rfl rfl ?_
   refine s_pickT rfl rfl (v := .sc (.bool true)) rfl rfl rfl rfl ?_
   refine m1 ?_
   refine s_skip rfl rfl rfl ?_
   refine s_skip rfl rfl rfl ?_
   refine s_skip rfl rfl rfl ?_
   refine s_skip rfl rfl rfl ?_
   refine s_skip rfl rfl rfl ?_
   refine s_skip rfl rfl rfl ?_
   refine s_skip rfl rfl rfl ?_
   refine s_skip rfl rfl rfl ?_
   refine s_skip rfl rfl rfl ?_
   refine s_skip rfl rfl rfl ?_
   refine s_pickT rfl rfl (v := .sc (.bool true)) rfl rfl rfl rfl ?_
   refine rt_nil ?_
   refine Exists.intro ⟨true, h⟩ ?_
   refine entX [] [] trivial trivial rfl rfl ?_
   exact ⟨(.free rfl), (.free rfl), (.free rfl), trivial⟩
  ·replace h := cond_f h b1
   refine m1 ?_
   refine m1 ?_
   refine s_lenL rfl sl22 rfl rfl rfl rfl ?_
   refine s_of (st_geq rfl rfl rfl) rfl rfl rfl rfl ?_
   refine s_pickF rfl rfl (by conv => lhs; whnf) rfl rfl rfl ?_
   refine m1 ?_
   refine s_split (t := 17) rfl (fun b2 => ?_) (fun b2 => ?_)
   ·replace h := cond_t h b2
    refine s_skip rfl rfl rfl ?_
    refine s_skip rfl rfl rfl ?_
    refine s_skip rfl rfl rfl ?_
    refine s_skip rfl rfl rfl ?_
    refine s_skip rfl rfl rfl ?_
    refine s_pickT rfl rfl (v := .sc (.bool true)) rfl rfl rfl rfl ?_
    refine m1 ?_
    refine s_skip rfl rfl rfl ?_
    refine s_skip rfl rfl rfl ?_
    refine s_skip rfl rfl rfl ?_
    refine s_skip rfl rfl rfl ?_
    refine s_skip rfl rfl rfl ?_
    refine s_skip rfl rfl rfl ?_
    refine s_skip rfl rfl rfl ?_
    refine s_skip rfl rfl rfl ?_
    refine s_skip rfl rfl rfl ?_
    refine s_skip rfl rfl rfl ?_
    refine s_pickT rfl rfl (v := .sc (.bool true)) rfl rfl rfl rfl ?_
    refine rt_nil ?_
    refine Exists.intro ⟨true, h⟩ ?_
    refine entX [] [] trivial trivial rfl rfl ?_
    exact ⟨(.free rfl), (.free rfl), (.free rfl), trivial⟩
   ·replace h := cond_f h b2
    refine m1 ?_
    refine m1 ?_
    refine bnd1_elim h fun x3 q4 h => ?_
    have q4a := (idx_some q4).1; have q4b := (idx_some q4).2
    refine s_indexFZ rfl rfl rfl sl22 q4a (get_ltM q4b) rfl rfl rfl ?_
    refine s_loadF rfl rfl (rowG q4b) ty5 rfl (.inr rfl) (by conv => lhs; whnf) rfl rfl rfl ?_
    refine s_of (st_gtr rfl rfl rfl) rfl rfl rfl rfl ?_
    refine s_pickF rfl rfl (by conv => lhs; whnf) rfl rfl rfl ?_
    refine m1 ?_
    refine s_split (t := 24) rfl (fun b5 => ?_) (fun b5 => ?_)
    ·replace h := cond_t h b5
     refine s_skip rfl rfl rfl ?_
     refine s_skip rfl rfl rfl ?_
     refine s_skip rfl rfl rfl ?_
     refine s_skip rfl rfl rfl ?_
     refine s_skip rfl rfl rfl ?_
     refine s_skip rfl rfl rfl ?_
     refine s_skip rfl rfl rfl ?_
     refine s_skip rfl rfl rfl ?_
     refine s_skip rfl rfl rfl ?_
     refine s_skip rfl rfl rfl ?_
     refine s_pickT rfl rfl (v := .sc (.bool true)) rfl rfl rfl rfl ?_
     refine rt_nil ?_
     refine Exists.intro ⟨true, h⟩ ?_
     refine entX [] [] trivial trivial rfl rfl ?_
     exact ⟨(.free rfl), (.free rfl), (.free rfl), trivial⟩
    ·replace h := cond_f h b5
     refine m1 ?_
     refine m1 ?_
     refine s_indexFZ rfl rfl rfl sl22 q4a (get_ltM q4b) rfl rfl rfl ?_
     refine s_loadF rfl rfl (rowG q4b) ty5 rfl (.inr rfl) (by conv => lhs; whnf) rfl rfl rfl ?_
     refine s_of (st_conv ik5 ik3 rfl rfl) rfl rfl rfl rfl ?_
     refine m1 ?_
     refine s_lenL rfl sl22 rfl rfl rfl rfl ?_
     refine m1 ?_
     refine grd_elim h fun g6 h => ?_
     refine s_subI rfl rfl rfl rfl g6 rfl rfl rfl ?_
     refine s_of (st_geq rfl rfl rfl) rfl rfl rfl rfl ?_
     refine s_pickF rfl rfl (by conv => lhs; whnf) rfl rfl rfl ?_
     refine rt_nil ?_
     refine Exists.intro ⟨decide ((p0.length : Int) - p1 ≤ IntKind.i64.wrap x3), h⟩ ?_
     refine entX [] [] trivial trivial rfl rfl ?_
     exact ⟨(.free rfl), (.free rfl), (.free rfl), trivial⟩
 ·rintro ⟨j0_0, h⟩
  replace h : i_GetLabel_j0 p0 p1 j0_0 = some (r0, r1, r2) := h
  unfold i_GetLabel_j0 at h
  show Tri _ _ _ (inv_i_GetLabel_0 p0 p1 j0_0)
  refine tri_cond rfl (fun c1 => ?_) (fun c1 => ?_)
  ·replace h := cond_t h c1
   refine tri_sr ?_
   refine s_mv (.inr rfl) (v := .sc (.string (⟨#[]⟩ : ByteArray))) rfl rfl rfl rfl ?_
   refine s_mv (.inr rfl) (v := .sc (.int .i64 0)) rfl rfl rfl rfl ?_
   refine s_mv (.inr rfl) (v := .sc (.bool false)) rfl rfl rfl rfl ?_
   refine rt_nil ?_
   refine tri_ret ?_
   have e0 := (some3 h).1; have e1 := (some3 h).2.1; have e2 := (some3 h).2.2; subst e0; subst e1; subst e2
   exact endY [] [] (rvC (resTmp rfl) (rvC (resTmp rfl) (rvC (resTmp rfl) rvN))) trivial trivial rfl rfl rfl rfl (CvL.tup (.cons (.free rfl) (.cons (.free rfl) (.cons (.free rfl) .nil))))
  ·replace h := cond_f h c1
   refine tri_skip ?_
   refine tri_sr ?_
   refine m1 ?_
   refine grd_elim h fun g2 h => ?_
   refine s_addI rfl rfl rfl rfl g2 rfl rfl rfl ?_
   refine m1 ?_
   refine m1 ?_
   refine bnd1_elim h fun x3 q4 h => ?_
   have q4a := (idx_some q4).1; have q4b := (idx_some q4).2
   refine s_indexFZ rfl rfl rfl sl22 q4a (get_ltM q4b) rfl rfl rfl ?_
   refine s_loadF rfl rfl (rowG q4b) ty5 rfl (.inr rfl) (by conv => lhs; whnf) rfl rfl rfl ?_
   refine s_of (st_conv ik5 ik3 rfl rfl) rfl rfl rfl rfl ?_
   refine grd_elim h fun g5 h => ?_
   refine s_addI rfl rfl rfl rfl g5 rfl rfl rfl ?_
   refine m2 ?_
   refine rt_nil ?_
   refine tri_sr ?_
   refine m1 ?_
   refine m1 ?_
   refine grd_elim h fun g6 h => ?_
   refine s_addI rfl rfl rfl rfl g6 rfl rfl rfl ?_
   refine m1 ?_
   refine grd_elim h fun g7 h => ?_
   refine s_sliceFZ (a := p1 + 1) (b := (p1 + 1) + (IntKind.i64.wrap x3)) rfl rfl sl22 ⟨_, rfl⟩ ⟨_, rfl⟩ g7 rfl rfl rfl ?_
   refine s_toString rfl src_lst byt22 iss9 rfl rfl rfl rfl ?_
   refine bnd1_elim h fun x8 q9 h => ?_
   refine s_callN (kb := []) (ns := []) (v := .sc (.string x8)) rfl rfl cl141 (wi_Fold (strOfNums ((p0.drop (p1 + 1).toNat).take (((p1 + 1) + (IntKind.i64.wrap x3)).toNat - (p1 + 1).toNat))) x8 q9) rfl (.cons (.free rfl) .nil) trivial memNil .nil memNil rfl trivial memNil rfl rfl rfl rfl rfl rfl ?_
   refine m2 ?_
   refine rt_nil ?_
   refine tri_seq ?_
   refine tri_sr ?_
   refine m1 ?_
   refine bnd1_elim h fun x10 q11 h => ?_
   refine s_callN (kb := []) (ns := []) (v := .sc (.bool x10)) rfl rfl cl114 (wi_LabelOk x8 x10 q11) rfl (.cons (.free rfl) .nil) trivial memNil .nil memNil rfl trivial memNil rfl rfl rfl rfl rfl rfl ?_
   refine s_of (st_not rfl rfl) rfl rfl rfl rfl ?_
   refine rt_nil ?_
   refine tri_cond rfl (fun c12 => ?_) (fun c12 => ?_)
   ·replace h := cond_t h c12
    refine tri_sr ?_
    refine s_mv (.inr rfl) (v := .sc (.string (⟨#[]⟩ : ByteArray))) rfl rfl rfl rfl ?_
    refine s_mv (.inr rfl) (v := .sc (.int .i64 0)) rfl rfl rfl rfl ?_
    refine s_mv (.inr rfl) (v := .sc (.bool false)) rfl rfl rfl rfl ?_
    refine rt_nil ?_
    refine tri_ret ?_
    have e0 := (some3 h).1; have e1 := (some3 h).2.1; have e2 := (some3 h).2.2; subst e0; subst e1; subst e2
    exact endY [] [] (rvC (resTmp rfl) (rvC (resTmp rfl) (rvC (resTmp rfl) rvN))) trivial trivial rfl rfl rfl rfl (CvL.tup (.cons (.free rfl) (.cons (.free rfl) (.cons (.free rfl) .nil))))
   ·replace h := cond_f h c12
    refine tri_skip ?_
    refine tri_sr ?_
    refine m1 ?_
    refine m1 ?_
    refine m2 ?_
    refine m2 ?_
    refine s_mv (.inr rfl) (v := .sc (.bool true)) rfl rfl rfl rfl ?_
    refine rt_nil ?_
    refine tri_ret ?_
    have e0 := (some3 h).1; have e1 := (some3 h).2.1; have e2 := (some3 h).2.2; subst e0; subst e1; subst e2
    exact endY [] [] (rvC (resTmp rfl) (rvC (resTmp rfl) (rvC (resTmp rfl) rvN))) trivial trivial rfl rfl rfl rfl (CvL.tup (.cons (.free rfl) (.cons (.free rfl) (.cons (.free rfl) .nil))))

end Go.Abs.M
