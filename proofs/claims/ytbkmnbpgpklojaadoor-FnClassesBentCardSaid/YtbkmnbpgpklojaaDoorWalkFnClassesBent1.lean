/- Walks of the functions that the law of FnClassesBent reaches: what each of them computes, where its pure function does not fail. -/
import Derived.Test.YtbkmnbpgpklojaaDoorWalkFnClassesBent0
set_option linter.unusedSimpArgs false
set_option linter.unusedVariables false
namespace Go.Abs.M
open Go Go.Abs Go.Proofs
theorem cl117 : callable Tryd.prog 117 = true := by kernel_rfl
theorem cl128 : callable Tryd.prog 128 = true := by kernel_rfl
theorem cl129 : callable Tryd.prog 129 = true := by kernel_rfl
theorem cl130 : callable Tryd.prog 130 = true := by kernel_rfl
theorem cl133 : callable Tryd.prog 133 = true := by kernel_rfl
theorem cl139 : callable Tryd.prog 139 = true := by kernel_rfl
theorem cl164 : callable Tryd.prog 164 = true := by kernel_rfl
theorem cl193 : callable Tryd.prog 193 = true := by kernel_rfl
theorem cl20 : callable Tryd.prog 20 = true := by kernel_rfl
theorem cl203 : callable Tryd.prog 203 = true := by kernel_rfl
theorem cl204 : callable Tryd.prog 204 = true := by kernel_rfl
theorem cl205 : callable Tryd.prog 205 = true := by kernel_rfl
theorem cl206 : callable Tryd.prog 206 = true := by kernel_rfl
theorem cl217 : callable Tryd.prog 217 = true := by kernel_rfl
theorem cl42 : callable Tryd.prog 42 = true := by kernel_rfl
theorem cl49 : callable Tryd.prog 49 = true := by kernel_rfl
theorem cl51 : callable Tryd.prog 51 = true := by kernel_rfl
theorem cl58 : callable Tryd.prog 58 = true := by kernel_rfl
theorem cl60 : callable Tryd.prog 60 = true := by kernel_rfl
theorem cl62 : callable Tryd.prog 62 = true := by kernel_rfl
theorem cl67 : callable Tryd.prog 67 = true := by kernel_rfl
theorem cl71 : callable Tryd.prog 71 = true := by kernel_rfl
theorem cl73 : callable Tryd.prog 73 = true := by kernel_rfl
theorem cl74 : callable Tryd.prog 74 = true := by kernel_rfl
theorem cl91 : callable Tryd.prog 91 = true := by kernel_rfl
theorem fd28_0 : fldTy Tryd.prog 28 0 = some (0, 0 + 1, false) := by kernel_rfl
theorem fd28_1 : fldTy Tryd.prog 28 1 = some (1, 0 + 1, false) := by kernel_rfl
theorem fd50_1 : fldTy Tryd.prog 50 1 = some (1, 0 + 1, false) := by kernel_rfl
theorem fd50_10 : fldTy Tryd.prog 50 10 = some (11, 0 + 1, false) := by kernel_rfl
theorem fd50_2 : fldTy Tryd.prog 50 2 = some (2, 0 + 1, false) := by kernel_rfl
theorem fd50_3 : fldTy Tryd.prog 50 3 = some (3, 0 + 1, false) := by kernel_rfl
theorem fd50_5 : fldTy Tryd.prog 50 5 = some (5, 0 + 1, false) := by kernel_rfl
theorem fd50_6 : fldTy Tryd.prog 50 6 = some (6, 0 + 1, false) := by kernel_rfl
theorem fd50_8 : fldTy Tryd.prog 50 8 = some (9, 0 + 1, false) := by kernel_rfl
theorem fd50_9 : fldTy Tryd.prog 50 9 = some (10, 0 + 1, false) := by kernel_rfl
theorem ty26 : tyK Tryd.prog 26 = some (true, 2) := by kernel_rfl
/- spec.CutOf -/
def inv_s_CutOf_0 (p1 : ByteArray) (x1 : List ByteArray) (v0_0 : Nat) : St := mkT 26 [(1, .sc (.string p1)), (6, .ref (9, 0) 0 x1.length), (7, .sc (.int .i64 (v0_0 : Int)))] [((9, 0), some ⟨9, 1, List.map strV x1, false, true⟩)]
set_option maxRecDepth 4000 in
set_option maxHeartbeats 800000 in
theorem ws_CutOf (p0 : MZone) (p1 : ByteArray) (r0 : ByteArray) (r1 : Bool) (h : s_CutOf p0 p1 = some (r0, r1)) : Runs Tryd.prog 67 [.agg (mZoneV p0), .sc (.string p1)] [] (.tup [.sc (.string r0), .sc (.bool r1)]) [] := by
 unfold s_CutOf at h
 refine runsR [.tmp 4, .tmp 5] Tryd.func67 rfl rfl rfl rfl ?_
 rw [Tryd.ntmps67]
 refine tri_sr ?_
 refine s_box rfl rfl rfl rfl rfl rfl rfl ?_
 refine s_mv (.inr rfl) (v := .sc (.string (⟨#[]⟩ : ByteArray))) rfl rfl rfl rfl ?_
 refine s_mv (.inr rfl) (v := .sc (.bool false)) rfl rfl rfl rfl ?_
 refine rt_nil ?_
 refine tri_sr ?_
 refine s_loadR rfl rfl rfl rfl ty26 rfl rfl rfl ?_
 refine bnd1_elim h fun x1 q2 h => ?_
 refine s_callN (kb := []) (ns := []) (v := .ref (9, 0) 0 x1.length) rfl rfl cl74 (ws_CutsOf p0 x1 q2) rfl (.cons (relAgg rfl) .nil) trivial memNil .nil memNil rfl ⟨(allSc_map strV_sc), trivial⟩ memNil rfl (by simp only [V.mat, V.mat1, V.mat0, matL, matT, List.length_map] <;> rfl) rfl rfl rfl rfl ?_
 refine m2 ?_
 refine rt_nil ?_
 refine tri_seq ?_
 refine tri_sr ?_
 refine s_mv (.inr rfl) (v := .sc (.int .i64 0)) rfl rfl rfl rfl ?_
 refine rt_nil ?_
 refine tri_block ?_
 refine tri_ownM (9, 0) rfl (fun hl0 => ?_)
 refine tri_loop (ι := { p : (List ByteArray) × Nat // x1.drop p.2 = p.1 ∧ s_CutOf_l0 p1 p.1 p.2 = some (r0, r1) }) (fun p => inv_s_CutOf_0 p1 x1 p.1.2) (fun p => p.1.1.length) ⟨(x1, 0), rfl, h⟩ ?_ ?_
 ·skip
  refine entX [((9, 0), ⟨9, 1, List.map strV x1, false, true⟩, some (9, 0))] [] ⟨⟨rfl, _, rfl, rfl, rfl, rfl, id, rowsCv_eq rfl (allFree_map strV_free), rowsZ_map strV_len⟩, trivial⟩ trivial rfl rfl ?_
  exact ⟨(.free rfl), (.ref rfl), (.free rfl), trivial⟩
 ·rintro ⟨⟨lrs0, v0_0⟩, hd0, h⟩
  replace hd0 : x1.drop v0_0 = lrs0 := hd0
  replace h : s_CutOf_l0 p1 lrs0 v0_0 = some (r0, r1) := h
  show Tri _ _ _ (inv_s_CutOf_0 p1 x1 v0_0)
  refine tri_seq ?_
  refine tri_sr ?_
  refine m1 ?_
  refine m1 ?_
  refine s_len (m := x1.length) rfl sl33 rfl rfl rfl rfl ?_
  refine s_of (st_lss rfl rfl rfl) rfl rfl rfl rfl ?_
  refine rt_nil ?_
  refine tri_cond rfl (fun c3 => ?_) (fun c3 => ?_)
  ·refine drop_elim hd0 c3 fun e0 rs0 he hx0 hn0 => ?_
   subst he
   rw [s_CutOf_l0] at h
   refine tri_skip ?_
   refine tri_seq ?_
   refine tri_block ?_
   refine tri_sr ?_
   refine m1 ?_
   refine m1 ?_
   refine m1 ?_
   refine s_index0 (i := v0_0) rfl rfl rfl rfl sl33 rfl (get_lt hx0) rfl rfl rfl ?_
   refine s_load rfl rfl rfl (rowG hx0) ty9 rfl (.inr rfl) (by conv => lhs; whnf) rfl rfl rfl ?_
   refine bnd1_elim h fun x4 q5 h => ?_
   refine s_callN (kb := []) (ns := []) (v := .sc (.bool x4)) rfl rfl cl127 (ws_Under p1 e0 x4 q5) rfl (.cons (.free rfl) (.cons (.free rfl) .nil)) trivial memNil .nil memNil rfl trivial memNil rfl rfl rfl rfl rfl rfl ?_
   refine rt_nil ?_
   refine tri_cond rfl (fun c6 => ?_) (fun c6 => ?_)
   ·replace h := cond_t h c6
    refine tri_sr ?_
    refine m1 ?_
    refine m1 ?_
    refine s_index0 (i := v0_0) rfl rfl rfl rfl sl33 rfl (get_lt hx0) rfl rfl rfl ?_
    refine s_load rfl rfl rfl (rowG hx0) ty9 rfl (.inr rfl) (by conv => lhs; whnf) rfl rfl rfl ?_
    refine m2 ?_
    refine s_mv (.inr rfl) (v := .sc (.bool true)) rfl rfl rfl rfl ?_
    refine rt_nil ?_
    refine tri_ret ?_
    have e0 := (some2 h).1; have e1 := (some2 h).2; subst e0; subst e1
    exact endY [] [] (rvC (resTmp rfl) (rvC (resTmp rfl) rvN)) trivial trivial rfl rfl rfl rfl (CvL.tup (.cons (.free rfl) (.cons (.free rfl) .nil)))
   ·replace h := cond_f h c6
    refine tri_skip ?_
    refine tri_region ?_
    refine m1 ?_
    refine s_inc (a := v0_0) (b := 1) rfl rfl rfl rfl (by have := get_lt hx0; have := hl0; omega) rfl rfl rfl ?_
    refine m2 ?_
    refine rt_nil ?_
    refine Exists.intro ⟨(rs0, (v0_0 + 1)), hn0, h⟩ (And.intro (Nat.lt_succ_self _) ?_)
    refine entX [((9, 0), ⟨9, 1, List.map strV x1, false, true⟩, some (9, 0))] [] ⟨⟨rfl, _, rfl, rfl, rfl, rfl, id, rowsCv_eq rfl (allFree_map strV_free), rowsZ_map strV_len⟩, trivial⟩ trivial rfl rfl ?_
    exact ⟨(.free rfl), (.ref rfl), (.free rfl), trivial⟩
  ·have he := drop_f hd0 c3; subst he
   rw [s_CutOf_l0] at h
   refine tri_exit ?_
   refine tri_sr ?_
   refine s_mv (.inr rfl) (v := .sc (.string (⟨#[]⟩ : ByteArray))) rfl rfl rfl rfl ?_
   refine s_mv (.inr rfl) (v := .sc (.bool false)) rfl rfl rfl rfl ?_
   refine rt_nil ?_
   refine tri_ret ?_
   have e0 := (some2 h).1; have e1 := (some2 h).2; subst e0; subst e1
   exact endY [] [] (rvC (resTmp rfl) (rvC (resTmp rfl) rvN)) trivial trivial rfl rfl rfl rfl (CvL.tup (.cons (.free rfl) (.cons (.free rfl) .nil)))

/- spec.SetOf -/
def inv_s_SetOf_1 (p0 : List Rec) (p1 : ByteArray) (p2 : Int) (v0_0 : List Rec) (v0_1 : Nat) (j1_0 : Bool) : St := mkT 40 [(0, .lst 6 (List.map recV p0)), (1, .sc (.string p1)), (2, .sc (.int .i64 p2)), (7, .ref (2007, 0) 0 v0_0.length), (8, .sc (.int .i64 (v0_1 : Int))), (31, .sc (.bool j1_0))] [((2007, 0), some ⟨39, 6, List.map recV v0_0, false, true⟩)]
def inv_s_SetOf_0 (p0 : List Rec) (p1 : ByteArray) (p2 : Int) (v0_0 : List Rec) (v0_1 : Nat) : St := mkT 40 [(0, .lst 6 (List.map recV p0)), (1, .sc (.string p1)), (2, .sc (.int .i64 p2)), (7, .ref (2007, 0) 0 v0_0.length), (8, .sc (.int .i64 (v0_1 : Int)))] [((2007, 0), some ⟨39, 6, List.map recV v0_0, false, true⟩)]
set_option maxRecDepth 4000 in
set_option maxHeartbeats 800000 in
theorem ws_SetOf (p0 : List Rec) (p1 : ByteArray) (p2 : Int) (r0 : List Rec) (h : s_SetOf p0 p1 p2 = some r0) : Runs Tryd.prog 128 [.lst 6 (List.map recV p0), .sc (.string p1), .sc (.int .i64 p2)] [] (.own 39 6 (List.map recV r0)) [] := by
 unfold s_SetOf at h
 refine runsR [.tmp 6] Tryd.func128 rfl rfl rfl rfl ?_
 rw [Tryd.ntmps128]
 refine tri_sr ?_
 refine s_mv (.inr rfl) (v := .nils) rfl rfl rfl rfl ?_
 refine rt_nil ?_
 refine tri_sr ?_
 refine s_buildSlice (rows' := List.map recV ([] : List Rec)) rfl rfl rfl sl24 zc39 rfl rfl rfl rfl rfl rfl rfl rfl rfl ?_
 refine m2 ?_
 refine rt_nil ?_
 refine tri_seq ?_
 refine tri_sr ?_
 refine s_mv (.inr rfl) (v := .sc (.int .i64 0)) rfl rfl rfl rfl ?_
 refine rt_nil ?_
 refine tri_block ?_
 refine tri_lstM 0 rfl (fun hl0 => ?_)
 refine tri_loop (ι := { p : (List Rec) × (List Rec) × Nat // p0.drop p.2.2 = p.1 ∧ s_SetOf_l0 p1 p2 p.1 p.2.1 p.2.2 = some r0 }) (fun p => inv_s_SetOf_0 p0 p1 p2 p.1.2.1 p.1.2.2) (fun p => p.1.1.length) ⟨(p0, ([] : List Rec), 0), rfl, h⟩ ?_ ?_
 ·skip
  refine entX [((2007, 0), ⟨39, 6, List.map recV ([] : List Rec), false, true⟩, some (9, 0))] [] ⟨⟨rfl, _, rfl, rfl, rfl, rfl, id, rowsCv_eq rfl (allFree_map recV_free), rowsZ_map recV_len⟩, trivial⟩ trivial rfl rfl ?_
  exact ⟨(.free rfl), (.free rfl), (.free rfl), (.ref rfl), (.free rfl), trivial⟩
 ·rintro ⟨⟨lrs0, v0_0, v0_1⟩, hd0, h⟩
  replace hd0 : p0.drop v0_1 = lrs0 := hd0
  replace h : s_SetOf_l0 p1 p2 lrs0 v0_0 v0_1 = some r0 := h
  show Tri _ _ _ (inv_s_SetOf_0 p0 p1 p2 v0_0 v0_1)
  refine tri_seq ?_
  refine tri_sr ?_
  refine m1 ?_
  refine m1 ?_
  refine s_lenL rfl sl24 rfl rfl rfl rfl ?_
  refine s_of (st_lss rfl rfl rfl) rfl rfl rfl rfl ?_
  refine rt_nil ?_
  refine tri_cond rfl (fun c1 => ?_) (fun c1 => ?_)
  ·refine drop_elim hd0 c1 fun e0 rs0 he hx0 hn0 => ?_
   subst he
   rw [s_SetOf_l0] at h
   refine tri_skip ?_
   refine tri_seq ?_
   refine tri_block ?_
   refine tri_cutI (ι := { p : Bool // s_SetOf_j1 v0_0 v0_1 e0 (s_SetOf_l0 p1 p2 rs0) p = some r0 }) (fun p => inv_s_SetOf_1 p0 p1 p2 v0_0 v0_1 p.1) ?_ ?_
   ·skip
    refine tri_region ?_
    refine m1 ?_
    refine m1 ?_
    refine s_indexF (i := v0_1) rfl rfl rfl sl24 (get_ltM hx0) rfl rfl rfl ?_
    refine s_fieldAddrF rfl rfl fd39_0 rfl rfl rfl rfl ?_
    refine s_loadF rfl rfl (rowG hx0) ty9 rfl (.inr rfl) (by conv => lhs; whnf) rfl rfl rfl ?_
    refine m1 ?_
    refine s_of (st_eqS rfl rfl rfl) rfl rfl rfl rfl ?_
    refine m1 ?_
    refine s_split (t := 23) rfl (fun b2 => ?_) (fun b2 => ?_)
    ·replace h := cond_t h b2
     refine m1 ?_
     refine m1 ?_
     refine s_indexF (i := v0_1) rfl rfl rfl sl24 (get_ltM hx0) rfl rfl rfl ?_
     refine s_fieldAddrF rfl rfl fd39_1 rfl rfl rfl rfl ?_
     refine s_loadF rfl rfl (rowG hx0) ty3 rfl (.inr rfl) (by conv => lhs; whnf) rfl rfl rfl ?_
     refine m1 ?_
     refine s_of (st_eqI rfl rfl rfl) rfl rfl rfl rfl ?_
     refine s_pickT rfl rfl (by conv => lhs; whnf) rfl rfl rfl ?_
     refine rt_nil ?_
     refine Exists.intro ⟨decide (e0.ty = p2), h⟩ ?_
     refine entX [((2007, 0), ⟨39, 6, List.map recV v0_0, false, true⟩, some (2007, 0))] [] ⟨⟨rfl, _, rfl, rfl, rfl, rfl, id, rowsCv_eq rfl (allFree_map recV_free), rowsZ_map recV_len⟩, trivial⟩ trivial rfl rfl ?_
     exact ⟨(.free rfl), (.free rfl), (.free rfl), (.ref rfl), (.free rfl), (.free rfl), trivial⟩
    ·replace h := cond_f h b2
     refine s_skip rfl rfl rfl ?_
     refine s_skip rfl rfl rfl ?_
     refine s_skip rfl rfl rfl ?_
     refine s_skip rfl rfl rfl ?_
     refine s_skip rfl rfl rfl ?_
     refine s_skip rfl rfl rfl ?_
     refine s_skip rfl rfl rfl ?_
     refine s_pickF rfl rfl (v := .sc (.bool false)) rfl rfl rfl rfl ?_
     refine rt_nil ?_
     refine Exists.intro ⟨false, h⟩ ?_
     refine entX [((2007, 0), ⟨39, 6, List.map recV v0_0, false, true⟩, some (2007, 0))] [] ⟨⟨rfl, _, rfl, rfl, rfl, rfl, id, rowsCv_eq rfl (allFree_map recV_free), rowsZ_map recV_len⟩, trivial⟩ trivial rfl rfl ?_
     exact ⟨(.free rfl), (.free rfl), (.free rfl), (.ref rfl), (.free rfl), (.free rfl), trivial⟩
   ·rintro ⟨j1_0, h⟩
    replace h : s_SetOf_j1 v0_0 v0_1 e0 (s_SetOf_l0 p1 p2 rs0) j1_0 = some r0 := h
    unfold s_SetOf_j1 at h
    show Tri _ _ _ (inv_s_SetOf_1 p0 p1 p2 v0_0 v0_1 j1_0)
    refine tri_cond rfl (fun c2 => ?_) (fun c2 => ?_)
    ·replace h := cond_t h c2
     refine tri_region ?_
     refine m1 ?_
     refine m1 ?_
     refine m1 ?_
     refine s_indexF (i := v0_1) rfl rfl rfl sl24 (get_ltM hx0) rfl rfl rfl ?_
     refine s_loadFR rfl rfl (rowG hx0) ty39 rfl rfl rfl ?_
     refine s_buildSlice (rows' := List.map recV [e0]) rfl rfl rfl sl24 zc39 rfl rfl rfl rfl rfl rfl rfl rfl rfl ?_
     refine grd_elim h fun g3 h => ?_
     refine s_appL rfl rfl rfl sl24 zc39 rfl rfl rfl rfl rfl rfl (src_refL rfl rfl) g3 rfl rfl ?_
     refine m2 ?_
     refine rt_nil ?_
     refine tri_region ?_
     refine m1 ?_
     refine s_inc (a := v0_1) (b := 1) rfl rfl rfl rfl (by have := get_lt hx0; have := hl0; omega) rfl rfl rfl ?_
     refine m2 ?_
     refine rt_nil ?_
     refine Exists.intro ⟨(rs0, v0_0 ++ [e0], (v0_1 + 1)), hn0, h⟩ (And.intro (Nat.lt_succ_self _) ?_)
     refine entX [((2007, 0), ⟨39, 6, List.map recV (v0_0 ++ [e0]), false, true⟩, some (38, 0))] [] ⟨⟨rfl, _, rfl, rfl, rfl, rfl, id, rowsCv_eq rfl (allFree_map recV_free), rowsZ_map recV_len⟩, trivial⟩ trivial rfl rfl ?_
     exact ⟨(.free rfl), (.free rfl), (.free rfl), (.ref rfl), (.free rfl), trivial⟩
    ·replace h := cond_f h c2
     refine tri_skip ?_
     refine tri_region ?_
     refine m1 ?_
     refine s_inc (a := v0_1) (b := 1) rfl rfl rfl rfl (by have := get_lt hx0; have := hl0; omega) rfl rfl rfl ?_
     refine m2 ?_
     refine rt_nil ?_
     refine Exists.intro ⟨(rs0, v0_0, (v0_1 + 1)), hn0, h⟩ (And.intro (Nat.lt_succ_self _) ?_)
     refine entX [((2007, 0), ⟨39, 6, List.map recV v0_0, false, true⟩, some (2007, 0))] [] ⟨⟨rfl, _, rfl, rfl, rfl, rfl, id, rowsCv_eq rfl (allFree_map recV_free), rowsZ_map recV_len⟩, trivial⟩ trivial rfl rfl ?_
     exact ⟨(.free rfl), (.free rfl), (.free rfl), (.ref rfl), (.free rfl), trivial⟩
  ·have he := drop_f hd0 c1; subst he
   rw [s_SetOf_l0] at h
   refine tri_exit ?_
   refine tri_sr ?_
   refine m1 ?_
   refine m2 ?_
   refine rt_nil ?_
   refine tri_ret ?_
   have e0 := (some1 h); subst e0
   exact endY (v' := .ref (2000, 0) 0 v0_0.length) [((2000, 0), ⟨39, 6, List.map recV v0_0, false, true⟩, some (2007, 0))] [] (rvC (resTmp rfl) rvN) ⟨⟨rfl, _, rfl, rfl, rfl, rfl, id, rowsCv_eq rfl (allFree_map recV_free), rowsZ_map recV_len⟩, trivial⟩ trivial rfl rfl (by kernel_rfl) (by simp only [V.mat, V.mat1, V.mat0, matL, matT, List.length_map] <;> rfl) (.ref rfl)

/- spec.Exists -/
def inv_s_Exists_0 (p0 : MZone) (p1 : ByteArray) (v0_0 : Nat) : St := mkT 21 [(1, .sc (.string p1)), (2, .ptr (2, 0) 0 0), (5, .sc (.int .i64 (v0_0 : Int)))] [((2, 0), some ⟨26, 2, [[.sc (.string p0.apex), .lst 6 (List.map recV p0.l)]], false, true⟩)]
set_option maxRecDepth 4000 in
set_option maxHeartbeats 800000 in
theorem ws_Exists (p0 : MZone) (p1 : ByteArray) (r0 : Bool) (h : s_Exists p0 p1 = some r0) : Runs Tryd.prog 71 [.agg (mZoneV p0), .sc (.string p1)] [] (.sc (.bool r0)) [] := by
 unfold s_Exists at h
 refine runsR [.tmp 4] Tryd.func71 rfl rfl rfl rfl ?_
 rw [Tryd.ntmps71]
 refine tri_sr ?_
 refine s_box rfl rfl rfl rfl rfl rfl rfl ?_
 refine s_mv (.inr rfl) (v := .sc (.bool false)) rfl rfl rfl rfl ?_
 refine rt_nil ?_
 refine tri_seq ?_
 refine tri_sr ?_
 refine s_mv (.inr rfl) (v := .sc (.int .i64 0)) rfl rfl rfl rfl ?_
 refine rt_nil ?_
 refine tri_block ?_
 refine tri_aggM 0 1 rfl rfl (fun hl0 => ?_)
 refine tri_loop (ι := { p : (List Rec) × Nat // p0.l.drop p.2 = p.1 ∧ s_Exists_l0 p1 p.1 p.2 = some r0 }) (fun p => inv_s_Exists_0 p0 p1 p.1.2) (fun p => p.1.1.length) ⟨(p0.l, 0), rfl, h⟩ ?_ ?_
 ·skip
  refine entX [((2, 0), ⟨26, 2, [[.sc (.string p0.apex), .lst 6 (List.map recV p0.l)]], false, true⟩, some (2, 0))] [] ⟨⟨rfl, _, rfl, rfl, rfl, rfl, id, rowsCv_one (.cons (.free rfl) (.cons (.free rfl) .nil)), rowsZ_one rfl⟩, trivial⟩ trivial rfl rfl ?_
  exact ⟨(.free rfl), (.ptr rfl), (.free rfl), trivial⟩
 ·rintro ⟨⟨lrs0, v0_0⟩, hd0, h⟩
  replace hd0 : p0.l.drop v0_0 = lrs0 := hd0
  replace h : s_Exists_l0 p1 lrs0 v0_0 = some r0 := h
  show Tri _ _ _ (inv_s_Exists_0 p0 p1 v0_0)
  refine tri_seq ?_
  refine tri_sr ?_
  refine m1 ?_
  refine s_fieldAddr rfl rfl fd26_1 rfl rfl rfl rfl ?_
  refine s_load rfl rfl rfl rfl ty24 rfl (.inr rfl) (by conv => lhs; whnf) rfl rfl rfl ?_
  refine s_lenL rfl sl24 rfl rfl rfl rfl ?_
  refine s_of (st_lss rfl rfl rfl) rfl rfl rfl rfl ?_
  refine rt_nil ?_
  refine tri_cond rfl (fun c1 => ?_) (fun c1 => ?_)
  ·refine drop_elim hd0 c1 fun e0 rs0 he hx0 hn0 => ?_
   subst he
   rw [s_Exists_l0] at h
   refine tri_skip ?_
   refine tri_seq ?_
   refine tri_block ?_
   refine tri_sr ?_
   refine s_fieldAddr rfl rfl fd26_1 rfl rfl rfl rfl ?_
   refine s_load rfl rfl rfl rfl ty24 rfl (.inr rfl) (by conv => lhs; whnf) rfl rfl rfl ?_
   refine m1 ?_
   refine s_indexF (i := v0_0) rfl rfl rfl sl24 (get_ltM hx0) rfl rfl rfl ?_
   refine s_fieldAddrF rfl rfl fd39_0 rfl rfl rfl rfl ?_
   refine s_loadF rfl rfl (rowG hx0) ty9 rfl (.inr rfl) (by conv => lhs; whnf) rfl rfl rfl ?_
   refine m1 ?_
   refine bnd1_elim h fun x2 q3 h => ?_
   refine s_callN (kb := []) (ns := []) (v := .sc (.bool x2)) rfl rfl cl127 (ws_Under e0.name p1 x2 q3) rfl (.cons (.free rfl) (.cons (.free rfl) .nil)) trivial memNil .nil memNil rfl trivial memNil rfl rfl rfl rfl rfl rfl ?_
   refine rt_nil ?_
   refine tri_cond rfl (fun c4 => ?_) (fun c4 => ?_)
   ·replace h := cond_t h c4
    refine tri_sr ?_
    refine s_mv (.inr rfl) (v := .sc (.bool true)) rfl rfl rfl rfl ?_
    refine rt_nil ?_
    refine tri_ret ?_
    have e0 := (some1 h); subst e0
    exact endY [] [] (rvC (resTmp rfl) rvN) trivial trivial rfl rfl rfl rfl (.free rfl)
   ·replace h := cond_f h c4
    refine tri_skip ?_
    refine tri_region ?_
    refine m1 ?_
    refine s_inc (a := v0_0) (b := 1) rfl rfl rfl rfl (by have := get_lt hx0; have := hl0; omega) rfl rfl rfl ?_
    refine m2 ?_
    refine rt_nil ?_
    refine Exists.intro ⟨(rs0, (v0_0 + 1)), hn0, h⟩ (And.intro (Nat.lt_succ_self _) ?_)
    refine entX [((2, 0), ⟨26, 2, [[.sc (.string p0.apex), .lst 6 (List.map recV p0.l)]], false, true⟩, some (2, 0))] [] ⟨⟨rfl, _, rfl, rfl, rfl, rfl, id, rowsCv_one (.cons (.free rfl) (.cons (.free rfl) .nil)), rowsZ_one rfl⟩, trivial⟩ trivial rfl rfl ?_
    exact ⟨(.free rfl), (.ptr rfl), (.free rfl), trivial⟩
  ·have he := drop_f hd0 c1; subst he
   rw [s_Exists_l0] at h
   refine tri_exit ?_
   refine tri_sr ?_
   refine s_mv (.inr rfl) (v := .sc (.bool false)) rfl rfl rfl rfl ?_
   refine rt_nil ?_
   refine tri_ret ?_
   have e0 := (some1 h); subst e0
   exact endY [] [] (rvC (resTmp rfl) rvN) trivial trivial rfl rfl rfl rfl (.free rfl)

/- spec.KindIn -/
def inv_s_KindIn_0 (p0 : MZone) (p1 : Quest) (j0_0 : Bool) : St := mkT 51 [(2, .ptr (2, 0) 0 0), (3, .ptr (3, 0) 0 0), (23, .sc (.bool j0_0))] [((2, 0), some ⟨26, 2, [[.sc (.string p0.apex), .lst 6 (List.map recV p0.l)]], false, true⟩), ((3, 0), some ⟨28, 2, [[.sc (.string p1.name), .sc (.int .i64 p1.ty)]], false, true⟩)]
set_option maxRecDepth 4000 in
set_option maxHeartbeats 800000 in
theorem ws_KindIn (p0 : MZone) (p1 : Quest) (r0 : Int) (h : s_KindIn p0 p1 = some r0) : Runs Tryd.prog 49 [.agg (mZoneV p0), .agg (questV p1)] [] (.sc (.int .i64 r0)) [] := by
 unfold s_KindIn at h
 refine runsR [.tmp 4] Tryd.func49 rfl rfl rfl rfl ?_
 rw [Tryd.ntmps49]
 refine tri_sr ?_
 refine s_box rfl rfl rfl rfl rfl rfl rfl ?_
 refine s_box rfl rfl rfl rfl rfl rfl rfl ?_
 refine s_mv (.inr rfl) (v := .sc (.int .i64 0)) rfl rfl rfl rfl ?_
 refine rt_nil ?_
 refine tri_sr ?_
 refine s_loadR rfl rfl rfl rfl ty26 rfl rfl rfl ?_
 refine s_fieldAddr rfl rfl fd28_0 rfl rfl rfl rfl ?_
 refine s_load rfl rfl rfl rfl ty9 rfl (.inr rfl) (by conv => lhs; whnf) rfl rfl rfl ?_
 refine bnd2_elim h fun x1 x2 q3 h => ?_
 refine s_callN (kb := []) (ns := []) (v := .tup [.sc (.string x1), .sc (.bool x2)]) rfl rfl cl67 (ws_CutOf p0 p1.name x1 x2 q3) rfl (.cons (relAgg rfl) (.cons (.free rfl) .nil)) trivial memNil .nil memNil rfl trivial memNil rfl rfl rfl rfl rfl rfl ?_
 refine m1 ?_
 refine s_extract rfl rfl rfl rfl rfl rfl ?_
 refine s_extract rfl rfl rfl rfl rfl rfl ?_
 refine m2 ?_
 refine m2 ?_
 refine rt_nil ?_
 refine tri_seq ?_
 refine tri_block ?_
 refine tri_sr ?_
 refine s_fieldAddr rfl rfl fd28_0 rfl rfl rfl rfl ?_
 refine s_load rfl rfl rfl rfl ty9 rfl (.inr rfl) (by conv => lhs; whnf) rfl rfl rfl ?_
 refine s_fieldAddr rfl rfl fd26_0 rfl rfl rfl rfl ?_
 refine s_load rfl rfl rfl rfl ty9 rfl (.inr rfl) (by conv => lhs; whnf) rfl rfl rfl ?_
 refine bnd1_elim h fun x4 q5 h => ?_
 refine s_callN (kb := []) (ns := []) (v := .sc (.bool x4)) rfl rfl cl127 (ws_Under p1.name p0.apex x4 q5) rfl (.cons (.free rfl) (.cons (.free rfl) .nil)) trivial memNil .nil memNil rfl trivial memNil rfl rfl rfl rfl rfl rfl ?_
 refine s_of (st_not rfl rfl) rfl rfl rfl rfl ?_
 refine m2 ?_
 refine rt_nil ?_
 refine tri_cond rfl (fun c6 => ?_) (fun c6 => ?_)
 ·replace h := cond_t h c6
  refine tri_sr ?_
  refine s_mv (.inr rfl) (v := .sc (.int .i64 0)) rfl rfl rfl rfl ?_
  refine rt_nil ?_
  refine tri_ret ?_
  have e0 := (some1 h); subst e0
  exact endY [] [] (rvC (resTmp rfl) rvN) trivial trivial rfl rfl rfl rfl (.free rfl)
 ·replace h := cond_f h c6
  refine tri_sr ?_
  refine m1 ?_
  refine m2 ?_
  refine rt_nil ?_
  refine tri_cond rfl (fun c7 => ?_) (fun c7 => ?_)
  ·replace h := cond_t h c7
   refine tri_sr ?_
   refine s_mv (.inr rfl) (v := .sc (.int .i64 1)) rfl rfl rfl rfl ?_
   refine rt_nil ?_
   refine tri_ret ?_
   have e0 := (some1 h); subst e0
   exact endY [] [] (rvC (resTmp rfl) rvN) trivial trivial rfl rfl rfl rfl (.free rfl)
  ·replace h := cond_f h c7
   refine tri_cutI (ι := { p : Bool // s_KindIn_j0 p0 p1 p = some r0 }) (fun p => inv_s_KindIn_0 p0 p1 p.1) ?_ ?_
   ·skip
    refine tri_region ?_
    refine s_fieldAddr rfl rfl fd28_1 rfl rfl rfl rfl ?_
    refine s_load rfl rfl rfl rfl ty3 rfl (.inr rfl) (by conv => lhs; whnf) rfl rfl rfl ?_
    refine s_of (st_neI rfl rfl rfl) rfl rfl rfl rfl ?_
    refine m1 ?_
    refine s_split (t := 27) rfl (fun b8 => ?_) (fun b8 => ?_)
    ·replace h := cond_t h b8
     refine s_fieldAddr rfl rfl fd26_1 rfl rfl rfl rfl ?_
     refine s_load rfl rfl rfl rfl ty24 rfl (.inr rfl) (by conv => lhs; whnf) rfl rfl rfl ?_
     refine s_fieldAddr rfl rfl fd28_0 rfl rfl rfl rfl ?_
     refine s_load rfl rfl rfl rfl ty9 rfl (.inr rfl) (by conv => lhs; whnf) rfl rfl rfl ?_
     refine bnd1_elim h fun x9 q10 h => ?_
     refine s_callN (kb := []) (ns := []) (v := .ref (32, 0) 0 x9.length) rfl rfl cl128 (ws_SetOf p0.l p1.name 5 x9 q10) rfl (.cons (.free rfl) (.cons (.free rfl) (.cons (.free rfl) .nil))) trivial memNil .nil memNil rfl ⟨(allSc_map recV_sc), trivial⟩ memNil rfl (by simp only [V.mat, V.mat1, V.mat0, matL, matT, List.length_map] <;> rfl) rfl rfl rfl rfl ?_
     refine s_len (m := x9.length) rfl sl24 rfl rfl rfl rfl ?_
     refine s_of (st_gtr rfl rfl rfl) rfl rfl rfl rfl ?_
     refine s_pickT rfl rfl (by conv => lhs; whnf) rfl rfl rfl ?_
     refine m2 ?_
     refine rt_nil ?_
     refine Exists.intro ⟨decide (0 < (x9.length : Int)), h⟩ ?_
     refine entX [((2, 0), ⟨26, 2, [[.sc (.string p0.apex), .lst 6 (List.map recV p0.l)]], false, true⟩, some (2, 0)), ((3, 0), ⟨28, 2, [[.sc (.string p1.name), .sc (.int .i64 p1.ty)]], false, true⟩, some (3, 0))] [] ⟨⟨rfl, _, rfl, rfl, rfl, rfl, id, rowsCv_one (.cons (.free rfl) (.cons (.free rfl) .nil)), rowsZ_one rfl⟩, ⟨rfl, _, rfl, rfl, rfl, rfl, id, rowsCv_one (.cons (.free rfl) (.cons (.free rfl) .nil)), rowsZ_one rfl⟩, trivial⟩ trivial rfl rfl ?_
     exact ⟨(.ptr rfl), (.ptr rfl), (.free rfl), trivial⟩
    ·replace h := cond_f h b8
     refine s_skip rfl rfl rfl ?_
     refine s_skip rfl rfl rfl ?_
     refine s_skip rfl rfl rfl ?_
     refine s_skip rfl rfl rfl ?_
     refine s_skip rfl rfl rfl ?_
     refine s_skip rfl rfl rfl ?_
     refine s_skip rfl rfl rfl ?_
     refine s_pickF rfl rfl (v := .sc (.bool false)) rfl rfl rfl rfl ?_
     refine m2 ?_
     refine rt_nil ?_
     refine Exists.intro ⟨false, h⟩ ?_
     refine entX [((2, 0), ⟨26, 2, [[.sc (.string p0.apex), .lst 6 (List.map recV p0.l)]], false, true⟩, some (2, 0)), ((3, 0), ⟨28, 2, [[.sc (.string p1.name), .sc (.int .i64 p1.ty)]], false, true⟩, some (3, 0))] [] ⟨⟨rfl, _, rfl, rfl, rfl, rfl, id, rowsCv_one (.cons (.free rfl) (.cons (.free rfl) .nil)), rowsZ_one rfl⟩, ⟨rfl, _, rfl, rfl, rfl, rfl, id, rowsCv_one (.cons (.free rfl) (.cons (.free rfl) .nil)), rowsZ_one rfl⟩, trivial⟩ trivial rfl rfl ?_
     exact ⟨(.ptr rfl), (.ptr rfl), (.free rfl), trivial⟩
   ·rintro ⟨j0_0, h⟩
    replace h : s_KindIn_j0 p0 p1 j0_0 = some r0 := h
    unfold s_KindIn_j0 at h
    show Tri _ _ _ (inv_s_KindIn_0 p0 p1 j0_0)
    refine tri_cond rfl (fun c8 => ?_) (fun c8 => ?_)
    ·replace h := cond_t h c8
     refine tri_sr ?_
     refine s_mv (.inr rfl) (v := .sc (.int .i64 2)) rfl rfl rfl rfl ?_
     refine rt_nil ?_
     refine tri_ret ?_
     have e0 := (some1 h); subst e0
     exact endY [] [] (rvC (resTmp rfl) rvN) trivial trivial rfl rfl rfl rfl (.free rfl)
    ·replace h := cond_f h c8
     refine tri_sr ?_
     refine s_fieldAddr rfl rfl fd26_1 rfl rfl rfl rfl ?_
     refine s_load rfl rfl rfl rfl ty24 rfl (.inr rfl) (by conv => lhs; whnf) rfl rfl rfl ?_
     refine s_fieldAddr rfl rfl fd28_0 rfl rfl rfl rfl ?_
     refine s_load rfl rfl rfl rfl ty9 rfl (.inr rfl) (by conv => lhs; whnf) rfl rfl rfl ?_
     refine s_fieldAddr rfl rfl fd28_1 rfl rfl rfl rfl ?_
     refine s_load rfl rfl rfl rfl ty3 rfl (.inr rfl) (by conv => lhs; whnf) rfl rfl rfl ?_
     refine bnd1_elim h fun x9 q10 h => ?_
     refine s_callN (kb := []) (ns := []) (v := .ref (43, 0) 0 x9.length) rfl rfl cl128 (ws_SetOf p0.l p1.name p1.ty x9 q10) rfl (.cons (.free rfl) (.cons (.free rfl) (.cons (.free rfl) .nil))) trivial memNil .nil memNil rfl ⟨(allSc_map recV_sc), trivial⟩ memNil rfl (by simp only [V.mat, V.mat1, V.mat0, matL, matT, List.length_map] <;> rfl) rfl rfl rfl rfl ?_
     refine s_len (m := x9.length) rfl sl24 rfl rfl rfl rfl ?_
     refine s_of (st_gtr rfl rfl rfl) rfl rfl rfl rfl ?_
     refine m2 ?_
     refine rt_nil ?_
     refine tri_cond rfl (fun c11 => ?_) (fun c11 => ?_)
     ·replace h := cond_t h c11
      refine tri_sr ?_
      refine s_mv (.inr rfl) (v := .sc (.int .i64 3)) rfl rfl rfl rfl ?_
      refine rt_nil ?_
      refine tri_ret ?_
      have e0 := (some1 h); subst e0
      exact endY [] [] (rvC (resTmp rfl) rvN) trivial trivial rfl rfl rfl rfl (.free rfl)
     ·replace h := cond_f h c11
      refine tri_sr ?_
      refine s_loadR rfl rfl rfl rfl ty26 rfl rfl rfl ?_
      refine s_fieldAddr rfl rfl fd28_0 rfl rfl rfl rfl ?_
      refine s_load rfl rfl rfl rfl ty9 rfl (.inr rfl) (by conv => lhs; whnf) rfl rfl rfl ?_
      refine bnd1_elim h fun x12 q13 h => ?_
      refine s_callN (kb := []) (ns := []) (v := .sc (.bool x12)) rfl rfl cl71 (ws_Exists p0 p1.name x12 q13) rfl (.cons (relAgg rfl) (.cons (.free rfl) .nil)) trivial memNil .nil memNil rfl trivial memNil rfl rfl rfl rfl rfl rfl ?_
      refine m2 ?_
      refine rt_nil ?_
      refine tri_cond rfl (fun c14 => ?_) (fun c14 => ?_)
      ·replace h := cond_t h c14
       refine tri_sr ?_
       refine s_mv (.inr rfl) (v := .sc (.int .i64 4)) rfl rfl rfl rfl ?_
       refine rt_nil ?_
       refine tri_ret ?_
       have e0 := (some1 h); subst e0
       exact endY [] [] (rvC (resTmp rfl) rvN) trivial trivial rfl rfl rfl rfl (.free rfl)
      ·replace h := cond_f h c14
       refine tri_skip ?_
       refine tri_sr ?_
       refine s_mv (.inr rfl) (v := .sc (.int .i64 5)) rfl rfl rfl rfl ?_
       refine rt_nil ?_
       refine tri_ret ?_
       have e0 := (some1 h); subst e0
       exact endY [] [] (rvC (resTmp rfl) rvN) trivial trivial rfl rfl rfl rfl (.free rfl)

/- spec.AnswerIn -/

set_option maxRecDepth 4000 in
set_option maxHeartbeats 800000 in
theorem ws_AnswerIn (p0 : MZone) (p1 : Quest) (r0 : List Rec) (h : s_AnswerIn p0 p1 = some r0) : Runs Tryd.prog 58 [.agg (mZoneV p0), .agg (questV p1)] [] (.own 39 6 (List.map recV r0)) [] := by
 unfold s_AnswerIn at h
 refine runsR [.tmp 4] Tryd.func58 rfl rfl rfl rfl ?_
 rw [Tryd.ntmps58]
 refine tri_sr ?_
 refine s_box rfl rfl rfl rfl rfl rfl rfl ?_
 refine s_box rfl rfl rfl rfl rfl rfl rfl ?_
 refine s_mv (.inr rfl) (v := .nils) rfl rfl rfl rfl ?_
 refine rt_nil ?_
 refine tri_seq ?_
 refine tri_sr ?_
 refine s_loadR rfl rfl rfl rfl ty26 rfl rfl rfl ?_
 refine s_loadR rfl rfl rfl rfl ty28 rfl rfl rfl ?_
 refine bnd1_elim h fun x1 q2 h => ?_
 refine s_callN (kb := []) (ns := []) (v := .sc (.int .i64 x1)) rfl rfl cl49 (ws_KindIn p0 p1 x1 q2) rfl (.cons (relAgg rfl) (.cons (relAgg rfl) .nil)) trivial memNil .nil memNil rfl trivial memNil rfl rfl rfl rfl rfl rfl ?_
 refine rt_nil ?_
 refine tri_block ?_
 refine tri_sr ?_
 refine s_of (st_eqI rfl rfl rfl) rfl rfl rfl rfl ?_
 refine m2 ?_
 refine rt_nil ?_
 refine tri_cond rfl (fun c3 => ?_) (fun c3 => ?_)
 ·replace h := cond_t h c3
  refine tri_sr ?_
  refine s_fieldAddr rfl rfl fd26_1 rfl rfl rfl rfl ?_
  refine s_load rfl rfl rfl rfl ty24 rfl (.inr rfl) (by conv => lhs; whnf) rfl rfl rfl ?_
  refine s_fieldAddr rfl rfl fd28_0 rfl rfl rfl rfl ?_
  refine s_load rfl rfl rfl rfl ty9 rfl (.inr rfl) (by conv => lhs; whnf) rfl rfl rfl ?_
  refine bnd1_elim h fun x4 q5 h => ?_
  refine s_callN (kb := []) (ns := []) (v := .ref (14, 0) 0 x4.length) rfl rfl cl128 (ws_SetOf p0.l p1.name 5 x4 q5) rfl (.cons (.free rfl) (.cons (.free rfl) (.cons (.free rfl) .nil))) trivial memNil .nil memNil rfl ⟨(allSc_map recV_sc), trivial⟩ memNil rfl (by simp only [V.mat, V.mat1, V.mat0, matL, matT, List.length_map] <;> rfl) rfl rfl rfl rfl ?_
  refine m2 ?_
  refine rt_nil ?_
  refine tri_ret ?_
  have e0 := (some1 h); subst e0
  exact endY (v' := .ref (2000, 0) 0 x4.length) [((2000, 0), ⟨39, 6, List.map recV x4, false, true⟩, some (14, 0))] [] (rvC (resTmp rfl) rvN) ⟨⟨rfl, _, rfl, rfl, rfl, rfl, id, rowsCv_eq rfl (allFree_map recV_free), rowsZ_map recV_len⟩, trivial⟩ trivial rfl rfl (by kernel_rfl) (by simp only [V.mat, V.mat1, V.mat0, matL, matT, List.length_map] <;> rfl) (.ref rfl)
 ·replace h := cond_f h c3
  refine tri_sr ?_
  refine s_of (st_eqI rfl rfl rfl) rfl rfl rfl rfl ?_
  refine m2 ?_
  refine rt_nil ?_
  refine tri_cond rfl (fun c6 => ?_) (fun c6 => ?_)
  ·replace h := cond_t h c6
   refine tri_sr ?_
   refine s_fieldAddr rfl rfl fd26_1 rfl rfl rfl rfl ?_
   refine s_load rfl rfl rfl rfl ty24 rfl (.inr rfl) (by conv => lhs; whnf) rfl rfl rfl ?_
   refine s_fieldAddr rfl rfl fd28_0 rfl rfl rfl rfl ?_
   refine s_load rfl rfl rfl rfl ty9 rfl (.inr rfl) (by conv => lhs; whnf) rfl rfl rfl ?_
   refine s_fieldAddr rfl rfl fd28_1 rfl rfl rfl rfl ?_
   refine s_load rfl rfl rfl rfl ty3 rfl (.inr rfl) (by conv => lhs; whnf) rfl rfl rfl ?_
   refine bnd1_elim h fun x7 q8 h => ?_
   refine s_callN (kb := []) (ns := []) (v := .ref (23, 0) 0 x7.length) rfl rfl cl128 (ws_SetOf p0.l p1.name p1.ty x7 q8) rfl (.cons (.free rfl) (.cons (.free rfl) (.cons (.free rfl) .nil))) trivial memNil .nil memNil rfl ⟨(allSc_map recV_sc), trivial⟩ memNil rfl (by simp only [V.mat, V.mat1, V.mat0, matL, matT, List.length_map] <;> rfl) rfl rfl rfl rfl ?_
   refine m2 ?_
   refine rt_nil ?_
   refine tri_ret ?_
   have e0 := (some1 h); subst e0
   exact endY (v' := .ref (2000, 0) 0 x7.length) [((2000, 0), ⟨39, 6, List.map recV x7, false, true⟩, some (23, 0))] [] (rvC (resTmp rfl) rvN) ⟨⟨rfl, _, rfl, rfl, rfl, rfl, id, rowsCv_eq rfl (allFree_map recV_free), rowsZ_map recV_len⟩, trivial⟩ trivial rfl rfl (by kernel_rfl) (by simp only [V.mat, V.mat1, V.mat0, matL, matT, List.length_map] <;> rfl) (.ref rfl)
  ·replace h := cond_f h c6
   refine tri_skip ?_
   refine tri_sr ?_
   refine s_buildSlice (rows' := List.map recV ([] : List Rec)) rfl rfl rfl sl24 zc39 rfl rfl rfl rfl rfl rfl rfl rfl rfl ?_
   refine m2 ?_
   refine rt_nil ?_
   refine tri_ret ?_
   have e0 := (some1 h); subst e0
   exact endY (v' := .ref (2000, 0) 0 (([] : List Rec).length)) [((2000, 0), ⟨39, 6, List.map recV ([] : List Rec), false, true⟩, some (24, 0))] [] (rvC (resTmp rfl) rvN) ⟨⟨rfl, _, rfl, rfl, rfl, rfl, id, rowsCv_eq rfl (allFree_map recV_free), rowsZ_map recV_len⟩, trivial⟩ trivial rfl rfl (by kernel_rfl) (by simp only [V.mat, V.mat1, V.mat0, matL, matT, List.length_map] <;> rfl) (.ref rfl)

/- spec.Least -/

set_option maxRecDepth 4000 in
set_option maxHeartbeats 800000 in
theorem ws_Least (p0 : Int) (p1 : Int) (r0 : Int) (h : s_Least p0 p1 = some r0) : Runs Tryd.prog 139 [.sc (.int .i64 p0), .sc (.int .i64 p1)] [] (.sc (.int .i64 r0)) [] := by
 unfold s_Least at h
 refine runsR [.tmp 4] Tryd.func139 rfl rfl rfl rfl ?_
 rw [Tryd.ntmps139]
 refine tri_sr ?_
 refine s_mv (.inr rfl) (v := .sc (.int .i64 0)) rfl rfl rfl rfl ?_
 refine rt_nil ?_
 refine tri_seq ?_
 refine tri_sr ?_
 refine m1 ?_
 refine m1 ?_
 refine s_of (st_lss rfl rfl rfl) rfl rfl rfl rfl ?_
 refine rt_nil ?_
 refine tri_cond rfl (fun c1 => ?_) (fun c1 => ?_)
 ·replace h := cond_t h c1
  refine tri_sr ?_
  refine m1 ?_
  refine m2 ?_
  refine rt_nil ?_
  refine tri_ret ?_
  have e0 := (some1 h); subst e0
  exact endY [] [] (rvC (resTmp rfl) rvN) trivial trivial rfl rfl rfl rfl (.free rfl)
 ·replace h := cond_f h c1
  refine tri_skip ?_
  refine tri_sr ?_
  refine m1 ?_
  refine m2 ?_
  refine rt_nil ?_
  refine tri_ret ?_
  have e0 := (some1 h); subst e0
  exact endY [] [] (rvC (resTmp rfl) rvN) trivial trivial rfl rfl rfl rfl (.free rfl)

/- spec.l11First -/

set_option maxRecDepth 4000 in
set_option maxHeartbeats 800000 in
theorem ws_l11First (p0 : List Rec) (r0 : List Rec) (h : s_l11First p0 = some r0) : Runs Tryd.prog 130 [.lst 6 (List.map recV p0)] [] (.own 39 6 (List.map recV r0)) [] := by
 unfold s_l11First at h
 refine runsR [.tmp 2] Tryd.func130 rfl rfl rfl rfl ?_
 rw [Tryd.ntmps130]
 refine tri_sr ?_
 refine s_mv (.inr rfl) (v := .nils) rfl rfl rfl rfl ?_
 refine rt_nil ?_
 refine tri_sr ?_
 refine m1 ?_
 refine m1 ?_
 refine s_lenL rfl sl24 rfl rfl rfl rfl ?_
 refine bnd1_elim h fun x1 q2 h => ?_
 refine s_callN (kb := []) (ns := []) (v := .sc (.int .i64 x1)) rfl rfl cl139 (ws_Least (p0.length : Int) 8 x1 q2) rfl (.cons (.free rfl) (.cons (.free rfl) .nil)) trivial memNil .nil memNil rfl trivial memNil rfl rfl rfl rfl rfl rfl ?_
 refine grd_elim h fun g3 h => ?_
 refine s_sliceFZ (a := ((0 : Nat) : Int)) (b := x1) rfl rfl sl24 rfl ⟨_, rfl⟩ g3 rfl rfl rfl ?_
 refine bnd1_elim h fun x4 q5 h => ?_
 refine s_callN (kb := []) (ns := []) (v := .ref (8, 0) 0 x4.length) rfl rfl cl165 (ws_l7Copy ((p0.drop ((0 : Nat) : Int).toNat).take (x1.toNat - ((0 : Nat) : Int).toNat)) x4 q5) rfl (.cons (.free rfl) .nil) trivial memNil .nil memNil rfl ⟨(allSc_map recV_sc), trivial⟩ memNil rfl (by simp only [V.mat, V.mat1, V.mat0, matL, matT, List.length_map] <;> rfl) rfl rfl rfl rfl ?_
 refine m2 ?_
 refine rt_nil ?_
 refine tri_ret ?_
 have e0 := (some1 h); subst e0
 exact endY (v' := .ref (2000, 0) 0 x4.length) [((2000, 0), ⟨39, 6, List.map recV x4, false, true⟩, some (8, 0))] [] (rvC (resTmp rfl) rvN) ⟨⟨rfl, _, rfl, rfl, rfl, rfl, id, rowsCv_eq rfl (allFree_map recV_free), rowsZ_map recV_len⟩, trivial⟩ trivial rfl rfl (by kernel_rfl) (by simp only [V.mat, V.mat1, V.mat0, matL, matT, List.length_map] <;> rfl) (.ref rfl)

/- spec.StartOf -/
def inv_s_StartOf_1 (p0 : MZone) (v1_0 : Nat) : St := mkT 24 [(1, .ptr (1, 0) 0 0), (2, .ptr (2, 0) 0 0), (3, .sc (.int .i64 (v1_0 : Int)))] [((1, 0), some ⟨26, 2, [[.sc (.string p0.apex), .lst 6 (List.map recV p0.l)]], false, true⟩), ((2, 0), some ⟨39, 6, [[.sc (.string (⟨#[]⟩ : ByteArray)), .sc (.int .i64 0), .sc (.int .i64 0), .sc (.int .i64 0), .sc (.string (⟨#[]⟩ : ByteArray)), .sc (.string (⟨#[]⟩ : ByteArray))]], false, true⟩)]
def inv_s_StartOf_0  : St := mkT 24 [(2, .ptr (2, 0) 0 0)] [((2, 0), some ⟨39, 6, [[.sc (.string (⟨#[]⟩ : ByteArray)), .sc (.int .i64 0), .sc (.int .i64 0), .sc (.int .i64 0), .sc (.string (⟨#[]⟩ : ByteArray)), .sc (.string (⟨#[]⟩ : ByteArray))]], false, true⟩)]
set_option maxRecDepth 4000 in
set_option maxHeartbeats 800000 in
theorem ws_StartOf (p0 : MZone) (r0 : Rec) (h : s_StartOf p0 = some r0) : Runs Tryd.prog 20 [.agg (mZoneV p0)] [] (.agg (recV r0)) [] := by
 unfold s_StartOf at h
 refine runsR [.cell 2 39] Tryd.func20 rfl rfl rfl rfl ?_
 rw [Tryd.ntmps20]
 refine tri_sr ?_
 refine s_box rfl rfl rfl rfl rfl rfl rfl ?_
 refine s_alloc rfl rfl rfl zc39 rfl rfl rfl rfl rfl ?_
 refine rt_nil ?_
 refine tri_cutI (ι := { p : Unit // s_StartOf_j0 = some r0 }) (fun p => inv_s_StartOf_0) ?_ ?_
 ·skip
  refine tri_sr ?_
  refine s_mv (.inr rfl) (v := .sc (.int .i64 0)) rfl rfl rfl rfl ?_
  refine rt_nil ?_
  refine tri_block ?_
  refine tri_aggM 0 1 rfl rfl (fun hl1 => ?_)
  refine tri_loop (ι := { p : (List Rec) × Nat // p0.l.drop p.2 = p.1 ∧ s_StartOf_l1 p.1 p.2 = some r0 }) (fun p => inv_s_StartOf_1 p0 p.1.2) (fun p => p.1.1.length) ⟨(p0.l, 0), rfl, h⟩ ?_ ?_
  ·skip
   refine entX [((1, 0), ⟨26, 2, [[.sc (.string p0.apex), .lst 6 (List.map recV p0.l)]], false, true⟩, some (1, 0)), ((2, 0), ⟨39, 6, [[.sc (.string (⟨#[]⟩ : ByteArray)), .sc (.int .i64 0), .sc (.int .i64 0), .sc (.int .i64 0), .sc (.string (⟨#[]⟩ : ByteArray)), .sc (.string (⟨#[]⟩ : ByteArray))]], false, true⟩, some (2, 0))] [] ⟨⟨rfl, _, rfl, rfl, rfl, rfl, id, rowsCv_one (.cons (.free rfl) (.cons (.free rfl) .nil)), rowsZ_one rfl⟩, ⟨rfl, _, rfl, rfl, rfl, rfl, id, rowsCv_one (.cons (.free rfl) (.cons (.free rfl) (.cons (.free rfl) (.cons (.free rfl) (.cons (.free rfl) (.cons (.free rfl) .nil)))))), rowsZ_one rfl⟩, trivial⟩ trivial rfl rfl ?_
   exact ⟨(.ptr rfl), (.ptr rfl), (.free rfl), trivial⟩
  ·rintro ⟨⟨lrs1, v1_0⟩, hd1, h⟩
   replace hd1 : p0.l.drop v1_0 = lrs1 := hd1
   replace h : s_StartOf_l1 lrs1 v1_0 = some r0 := h
   show Tri _ _ _ (inv_s_StartOf_1 p0 v1_0)
   refine tri_seq ?_
   refine tri_sr ?_
   refine m1 ?_
   refine s_fieldAddr rfl rfl fd26_1 rfl rfl rfl rfl ?_
   refine s_load rfl rfl rfl rfl ty24 rfl (.inr rfl) (by conv => lhs; whnf) rfl rfl rfl ?_
   refine s_lenL rfl sl24 rfl rfl rfl rfl ?_
   refine s_of (st_lss rfl rfl rfl) rfl rfl rfl rfl ?_
   refine rt_nil ?_
   refine tri_cond rfl (fun c1 => ?_) (fun c1 => ?_)
   ·refine drop_elim hd1 c1 fun e1 rs1 he hx1 hn1 => ?_
    subst he
    rw [s_StartOf_l1] at h
    refine tri_skip ?_
    refine tri_seq ?_
    refine tri_block ?_
    refine tri_sr ?_
    refine s_fieldAddr rfl rfl fd26_1 rfl rfl rfl rfl ?_
    refine s_load rfl rfl rfl rfl ty24 rfl (.inr rfl) (by conv => lhs; whnf) rfl rfl rfl ?_
    refine m1 ?_
    refine s_indexF (i := v1_0) rfl rfl rfl sl24 (get_ltM hx1) rfl rfl rfl ?_
    refine s_fieldAddrF rfl rfl fd39_1 rfl rfl rfl rfl ?_
    refine s_loadF rfl rfl (rowG hx1) ty3 rfl (.inr rfl) (by conv => lhs; whnf) rfl rfl rfl ?_
    refine s_of (st_eqI rfl rfl rfl) rfl rfl rfl rfl ?_
    refine rt_nil ?_
    refine tri_cond rfl (fun c2 => ?_) (fun c2 => ?_)
    ·replace h := cond_t h c2
     refine tri_sr ?_
     refine s_fieldAddr rfl rfl fd26_1 rfl rfl rfl rfl ?_
     refine s_load rfl rfl rfl rfl ty24 rfl (.inr rfl) (by conv => lhs; whnf) rfl rfl rfl ?_
     refine m1 ?_
     refine s_indexF (i := v1_0) rfl rfl rfl sl24 (get_ltM hx1) rfl rfl rfl ?_
     refine s_loadFR rfl rfl (rowG hx1) ty39 rfl rfl rfl ?_
     refine s_storeB rfl rfl rfl ty39 rfl rfl rfl rfl rfl ?_
     refine rt_nil ?_
     refine tri_ret ?_
     have e0 := (some1 h); subst e0
     exact endY [] [] (rvC (resCell rfl rfl ty39) rvN) trivial trivial rfl rfl rfl rfl (cvAgg rfl)
    ·replace h := cond_f h c2
     refine tri_skip ?_
     refine tri_region ?_
     refine m1 ?_
     refine s_inc (a := v1_0) (b := 1) rfl rfl rfl rfl (by have := get_lt hx1; have := hl1; omega) rfl rfl rfl ?_
     refine m2 ?_
     refine rt_nil ?_
     refine Exists.intro ⟨(rs1, (v1_0 + 1)), hn1, h⟩ (And.intro (Nat.lt_succ_self _) ?_)
     refine entX [((1, 0), ⟨26, 2, [[.sc (.string p0.apex), .lst 6 (List.map recV p0.l)]], false, true⟩, some (1, 0)), ((2, 0), ⟨39, 6, [[.sc (.string (⟨#[]⟩ : ByteArray)), .sc (.int .i64 0), .sc (.int .i64 0), .sc (.int .i64 0), .sc (.string (⟨#[]⟩ : ByteArray)), .sc (.string (⟨#[]⟩ : ByteArray))]], false, true⟩, some (2, 0))] [] ⟨⟨rfl, _, rfl, rfl, rfl, rfl, id, rowsCv_one (.cons (.free rfl) (.cons (.free rfl) .nil)), rowsZ_one rfl⟩, ⟨rfl, _, rfl, rfl, rfl, rfl, id, rowsCv_one (.cons (.free rfl) (.cons (.free rfl) (.cons (.free rfl) (.cons (.free rfl) (.cons (.free rfl) (.cons (.free rfl) .nil)))))), rowsZ_one rfl⟩, trivial⟩ trivial rfl rfl ?_
     exact ⟨(.ptr rfl), (.ptr rfl), (.free rfl), trivial⟩
   ·have he := drop_f hd1 c1; subst he
    rw [s_StartOf_l1] at h
    refine tri_exit ?_
    refine Exists.intro ⟨(), h⟩ ?_
    refine entX [((2, 0), ⟨39, 6, [[.sc (.string (⟨#[]⟩ : ByteArray)), .sc (.int .i64 0), .sc (.int .i64 0), .sc (.int .i64 0), .sc (.string (⟨#[]⟩ : ByteArray)), .sc (.string (⟨#[]⟩ : ByteArray))]], false, true⟩, some (2, 0))] [] ⟨⟨rfl, _, rfl, rfl, rfl, rfl, id, rowsCv_one (.cons (.free rfl) (.cons (.free rfl) (.cons (.free rfl) (.cons (.free rfl) (.cons (.free rfl) (.cons (.free rfl) .nil)))))), rowsZ_one rfl⟩, trivial⟩ trivial rfl rfl ?_
    exact ⟨(.ptr rfl), trivial⟩
 ·rintro ⟨u, h⟩
  replace h : s_StartOf_j0 = some r0 := h
  unfold s_StartOf_j0 at h
  show Tri _ _ _ (inv_s_StartOf_0)
  refine tri_sr ?_
  refine s_build (cells' := [.sc (.string (⟨#[]⟩ : ByteArray)), .sc (.int .i64 0), .sc (.int .i64 0), .sc (.int .i64 0), .sc (.string (⟨#[]⟩ : ByteArray)), .sc (.string (⟨#[]⟩ : ByteArray))]) rfl stc39 rfl rfl rfl rfl rfl rfl rfl ?_
  refine s_storeB rfl rfl rfl ty39 rfl rfl rfl rfl rfl ?_
  refine rt_nil ?_
  refine tri_ret ?_
  have e0 := (some1 h); subst e0
  exact endY [] [] (rvC (resCell rfl rfl ty39) rvN) trivial trivial rfl rfl rfl rfl (cvAgg rfl)

/- spec.MoreIn -/
def inv_s_MoreIn_0 (p0 : MZone) (j0_0 : Bool) : St := mkT 30 [(2, .ptr (2, 0) 0 0), (23, .sc (.bool j0_0))] [((2, 0), some ⟨26, 2, [[.sc (.string p0.apex), .lst 6 (List.map recV p0.l)]], false, true⟩)]
set_option maxRecDepth 4000 in
set_option maxHeartbeats 800000 in
theorem ws_MoreIn (p0 : MZone) (p1 : Quest) (r0 : List Rec) (h : s_MoreIn p0 p1 = some r0) : Runs Tryd.prog 60 [.agg (mZoneV p0), .agg (questV p1)] [] (.own 39 6 (List.map recV r0)) [] := by
 unfold s_MoreIn at h
 refine runsR [.tmp 4] Tryd.func60 rfl rfl rfl rfl ?_
 rw [Tryd.ntmps60]
 refine tri_sr ?_
 refine s_box rfl rfl rfl rfl rfl rfl rfl ?_
 refine s_box rfl rfl rfl rfl rfl rfl rfl ?_
 refine s_mv (.inr rfl) (v := .nils) rfl rfl rfl rfl ?_
 refine rt_nil ?_
 refine tri_seq ?_
 refine tri_sr ?_
 refine s_loadR rfl rfl rfl rfl ty26 rfl rfl rfl ?_
 refine s_loadR rfl rfl rfl rfl ty28 rfl rfl rfl ?_
 refine bnd1_elim h fun x1 q2 h => ?_
 refine s_callN (kb := []) (ns := []) (v := .sc (.int .i64 x1)) rfl rfl cl49 (ws_KindIn p0 p1 x1 q2) rfl (.cons (relAgg rfl) (.cons (relAgg rfl) .nil)) trivial memNil .nil memNil rfl trivial memNil rfl rfl rfl rfl rfl rfl ?_
 refine rt_nil ?_
 refine tri_block ?_
 refine tri_sr ?_
 refine s_of (st_eqI rfl rfl rfl) rfl rfl rfl rfl ?_
 refine m2 ?_
 refine rt_nil ?_
 refine tri_cond rfl (fun c3 => ?_) (fun c3 => ?_)
 ·replace h := cond_t h c3
  refine tri_sr ?_
  refine s_loadR rfl rfl rfl rfl ty26 rfl rfl rfl ?_
  refine s_fieldAddr rfl rfl fd28_0 rfl rfl rfl rfl ?_
  refine s_load rfl rfl rfl rfl ty9 rfl (.inr rfl) (by conv => lhs; whnf) rfl rfl rfl ?_
  refine bnd2_elim h fun x4 x5 q6 h => ?_
  refine s_callN (kb := []) (ns := []) (v := .tup [.sc (.string x4), .sc (.bool x5)]) rfl rfl cl67 (ws_CutOf p0 p1.name x4 x5 q6) rfl (.cons (relAgg rfl) (.cons (.free rfl) .nil)) trivial memNil .nil memNil rfl trivial memNil rfl rfl rfl rfl rfl rfl ?_
  refine m1 ?_
  refine s_extract rfl rfl rfl rfl rfl rfl ?_
  refine s_extract rfl rfl rfl rfl rfl rfl ?_
  refine m2 ?_
  refine m2 ?_
  refine rt_nil ?_
  refine tri_sr ?_
  refine s_fieldAddr rfl rfl fd26_1 rfl rfl rfl rfl ?_
  refine s_load rfl rfl rfl rfl ty24 rfl (.inr rfl) (by conv => lhs; whnf) rfl rfl rfl ?_
  refine m1 ?_
  refine bnd1_elim h fun x7 q8 h => ?_
  refine s_callN (kb := []) (ns := []) (v := .ref (22, 0) 0 x7.length) rfl rfl cl128 (ws_SetOf p0.l x4 2 x7 q8) rfl (.cons (.free rfl) (.cons (.free rfl) (.cons (.free rfl) .nil))) trivial memNil .nil memNil rfl ⟨(allSc_map recV_sc), trivial⟩ memNil rfl (by simp only [V.mat, V.mat1, V.mat0, matL, matT, List.length_map] <;> rfl) rfl rfl rfl rfl ?_
  refine m2 ?_
  refine rt_nil ?_
  refine tri_ret ?_
  have e0 := (some1 h); subst e0
  exact endY (v' := .ref (2000, 0) 0 x7.length) [((2000, 0), ⟨39, 6, List.map recV x7, false, true⟩, some (22, 0))] [] (rvC (resTmp rfl) rvN) ⟨⟨rfl, _, rfl, rfl, rfl, rfl, id, rowsCv_eq rfl (allFree_map recV_free), rowsZ_map recV_len⟩, trivial⟩ trivial rfl rfl (by kernel_rfl) (by simp only [V.mat, V.mat1, V.mat0, matL, matT, List.length_map] <;> rfl) (.ref rfl)
 ·replace h := cond_f h c3
  refine tri_cutI (ι := { p : Bool // s_MoreIn_j0 p0 p = some r0 }) (fun p => inv_s_MoreIn_0 p0 p.1) ?_ ?_
  ·skip
   refine tri_sr ?_
   refine s_of (st_eqI rfl rfl rfl) rfl rfl rfl rfl ?_
   refine m2 ?_
   refine rt_nil ?_
   refine tri_cond rfl (fun c9 => ?_) (fun c9 => ?_)
   ·replace h := cond_t h c9
    refine tri_skip ?_
    refine Exists.intro ⟨decide (x1 = 4), h⟩ ?_
    refine entX [((2, 0), ⟨26, 2, [[.sc (.string p0.apex), .lst 6 (List.map recV p0.l)]], false, true⟩, some (2, 0))] [] ⟨⟨rfl, _, rfl, rfl, rfl, rfl, id, rowsCv_one (.cons (.free rfl) (.cons (.free rfl) .nil)), rowsZ_one rfl⟩, trivial⟩ trivial rfl rfl ?_
    exact ⟨(.ptr rfl), (.free rfl), trivial⟩
   ·replace h := cond_f h c9
    refine tri_region ?_
    refine s_of (st_eqI rfl rfl rfl) rfl rfl rfl rfl ?_
    refine m2 ?_
    refine rt_nil ?_
    refine Exists.intro ⟨decide (x1 = 5), h⟩ ?_
    refine entX [((2, 0), ⟨26, 2, [[.sc (.string p0.apex), .lst 6 (List.map recV p0.l)]], false, true⟩, some (2, 0))] [] ⟨⟨rfl, _, rfl, rfl, rfl, rfl, id, rowsCv_one (.cons (.free rfl) (.cons (.free rfl) .nil)), rowsZ_one rfl⟩, trivial⟩ trivial rfl rfl ?_
    exact ⟨(.ptr rfl), (.free rfl), trivial⟩
  ·rintro ⟨j0_0, h⟩
   replace h : s_MoreIn_j0 p0 j0_0 = some r0 := h
   unfold s_MoreIn_j0 at h
   show Tri _ _ _ (inv_s_MoreIn_0 p0 j0_0)
   refine tri_cond rfl (fun c9 => ?_) (fun c9 => ?_)
   ·replace h := cond_t h c9
    refine tri_sr ?_
    refine s_loadR rfl rfl rfl rfl ty26 rfl rfl rfl ?_
    refine bnd1_elim h fun x10 q11 h => ?_
    refine s_callN (kb := []) (ns := []) (v := .agg (recV x10)) rfl rfl cl20 (ws_StartOf p0 x10 q11) rfl (.cons (relAgg rfl) .nil) trivial memNil .nil memNil rfl trivial memNil rfl rfl rfl rfl rfl rfl ?_
    refine s_buildSlice (rows' := List.map recV [x10]) rfl rfl rfl sl24 zc39 rfl rfl rfl rfl rfl rfl rfl rfl rfl ?_
    refine m2 ?_
    refine rt_nil ?_
    refine tri_ret ?_
    have e0 := (some1 h); subst e0
    exact endY (v' := .ref (2000, 0) 0 ([x10].length)) [((2000, 0), ⟨39, 6, List.map recV [x10], false, true⟩, some (28, 0))] [] (rvC (resTmp rfl) rvN) ⟨⟨rfl, _, rfl, rfl, rfl, rfl, id, rowsCv_eq rfl (allFree_map recV_free), rowsZ_map recV_len⟩, trivial⟩ trivial rfl rfl (by kernel_rfl) (by simp only [V.mat, V.mat1, V.mat0, matL, matT, List.length_map] <;> rfl) (.ref rfl)
   ·replace h := cond_f h c9
    refine tri_skip ?_
    refine tri_sr ?_
    refine s_buildSlice (rows' := List.map recV ([] : List Rec)) rfl rfl rfl sl24 zc39 rfl rfl rfl rfl rfl rfl rfl rfl rfl ?_
    refine m2 ?_
    refine rt_nil ?_
    refine tri_ret ?_
    have e0 := (some1 h); subst e0
    exact endY (v' := .ref (2000, 0) 0 (([] : List Rec).length)) [((2000, 0), ⟨39, 6, List.map recV ([] : List Rec), false, true⟩, some (29, 0))] [] (rvC (resTmp rfl) rvN) ⟨⟨rfl, _, rfl, rfl, rfl, rfl, id, rowsCv_eq rfl (allFree_map recV_free), rowsZ_map recV_len⟩, trivial⟩ trivial rfl rfl (by kernel_rfl) (by simp only [V.mat, V.mat1, V.mat0, matL, matT, List.length_map] <;> rfl) (.ref rfl)

/- spec.Hosts -/
def inv_s_Hosts_1 (p0 : List Rec) (v0_0 : List ByteArray) (v0_1 : Nat) (j1_0 : Bool) : St := mkT 37 [(0, .lst 6 (List.map recV p0)), (3, .ref (2003, 0) 0 v0_0.length), (4, .sc (.int .i64 (v0_1 : Int))), (27, .sc (.bool j1_0))] [((2003, 0), some ⟨9, 1, List.map strV v0_0, false, true⟩)]
def inv_s_Hosts_0 (p0 : List Rec) (v0_0 : List ByteArray) (v0_1 : Nat) : St := mkT 37 [(0, .lst 6 (List.map recV p0)), (3, .ref (2003, 0) 0 v0_0.length), (4, .sc (.int .i64 (v0_1 : Int)))] [((2003, 0), some ⟨9, 1, List.map strV v0_0, false, true⟩)]
set_option maxRecDepth 4000 in
set_option maxHeartbeats 800000 in
theorem ws_Hosts (p0 : List Rec) (r0 : List ByteArray) (h : s_Hosts p0 = some r0) : Runs Tryd.prog 42 [.lst 6 (List.map recV p0)] [] (.own 9 1 (List.map strV r0)) [] := by
 unfold s_Hosts at h
 refine runsR [.tmp 2] Tryd.func42 rfl rfl rfl rfl ?_
 rw [Tryd.ntmps42]
 refine tri_sr ?_
 refine s_mv (.inr rfl) (v := .nils) rfl rfl rfl rfl ?_
 refine rt_nil ?_
 refine tri_sr ?_
 refine s_buildSlice (rows' := List.map strV ([] : List ByteArray)) rfl rfl rfl sl33 zc9 rfl rfl rfl rfl rfl rfl rfl rfl rfl ?_
 refine m2 ?_
 refine rt_nil ?_
 refine tri_seq ?_
 refine tri_sr ?_
 refine s_mv (.inr rfl) (v := .sc (.int .i64 0)) rfl rfl rfl rfl ?_
 refine rt_nil ?_
 refine tri_block ?_
 refine tri_lstM 0 rfl (fun hl0 => ?_)
 refine tri_loop (ι := { p : (List Rec) × (List ByteArray) × Nat // p0.drop p.2.2 = p.1 ∧ s_Hosts_l0 p.1 p.2.1 p.2.2 = some r0 }) (fun p => inv_s_Hosts_0 p0 p.1.2.1 p.1.2.2) (fun p => p.1.1.length) ⟨(p0, ([] : List ByteArray), 0), rfl, h⟩ ?_ ?_
 ·skip
  refine entX [((2003, 0), ⟨9, 1, List.map strV ([] : List ByteArray), false, true⟩, some (5, 0))] [] ⟨⟨rfl, _, rfl, rfl, rfl, rfl, id, rowsCv_eq rfl (allFree_map strV_free), rowsZ_map strV_len⟩, trivial⟩ trivial rfl rfl ?_
  exact ⟨(.free rfl), (.ref rfl), (.free rfl), trivial⟩
 ·rintro ⟨⟨lrs0, v0_0, v0_1⟩, hd0, h⟩
  replace hd0 : p0.drop v0_1 = lrs0 := hd0
  replace h : s_Hosts_l0 lrs0 v0_0 v0_1 = some r0 := h
  show Tri _ _ _ (inv_s_Hosts_0 p0 v0_0 v0_1)
  refine tri_seq ?_
  refine tri_sr ?_
  refine m1 ?_
  refine m1 ?_
  refine s_lenL rfl sl24 rfl rfl rfl rfl ?_
  refine s_of (st_lss rfl rfl rfl) rfl rfl rfl rfl ?_
  refine rt_nil ?_
  refine tri_cond rfl (fun c1 => ?_) (fun c1 => ?_)
  ·refine drop_elim hd0 c1 fun e0 rs0 he hx0 hn0 => ?_
   subst he
   rw [s_Hosts_l0] at h
   refine tri_skip ?_
   refine tri_seq ?_
   refine tri_block ?_
   refine tri_cutI (ι := { p : Bool // s_Hosts_j1 v0_0 v0_1 e0 (s_Hosts_l0 rs0) p = some r0 }) (fun p => inv_s_Hosts_1 p0 v0_0 v0_1 p.1) ?_ ?_
   ·skip
    refine tri_region ?_
    refine m1 ?_
    refine m1 ?_
    refine s_indexF (i := v0_1) rfl rfl rfl sl24 (get_ltM hx0) rfl rfl rfl ?_
    refine s_fieldAddrF rfl rfl fd39_1 rfl rfl rfl rfl ?_
    refine s_loadF rfl rfl (rowG hx0) ty3 rfl (.inr rfl) (by conv => lhs; whnf) rfl rfl rfl ?_
    refine s_of (st_eqI rfl rfl rfl) rfl rfl rfl rfl ?_
    refine m1 ?_
    refine s_split (t := 18) rfl (fun b2 => ?_) (fun b2 => ?_)
    ·replace h := cond_t h b2
     refine m1 ?_
     refine m1 ?_
     refine m1 ?_
     refine s_indexF (i := v0_1) rfl rfl rfl sl24 (get_ltM hx0) rfl rfl rfl ?_
     refine s_fieldAddrF rfl rfl fd39_4 rfl rfl rfl rfl ?_
     refine s_loadF rfl rfl (rowG hx0) ty9 rfl (.inr rfl) (by conv => lhs; whnf) rfl rfl rfl ?_
     refine bnd1_elim h fun x3 q4 h => ?_
     refine s_callN (kb := [(2003, 0)]) (ns := []) (v := .sc (.bool x3)) rfl rfl cl121 (ws_l9Has v0_0 e0.host x3 q4) rfl (.cons (lendL rfl (.head _) rfl strV_free strV_len) (.cons (.free rfl) .nil)) trivial memNil .nil (fun _ _ => List.not_mem_nil) rfl trivial memNil rfl rfl rfl rfl rfl rfl ?_
     refine s_of (st_not rfl rfl) rfl rfl rfl rfl ?_
     refine s_pickT rfl rfl (by conv => lhs; whnf) rfl rfl rfl ?_
     refine rt_nil ?_
     refine Exists.intro ⟨!x3, h⟩ ?_
     refine entX [((2003, 0), ⟨9, 1, List.map strV v0_0, false, true⟩, some (2003, 0))] [] ⟨⟨rfl, _, rfl, rfl, rfl, rfl, id, rowsCv_eq rfl (allFree_map strV_free), rowsZ_map strV_len⟩, trivial⟩ trivial rfl rfl ?_
     exact ⟨(.free rfl), (.ref rfl), (.free rfl), (.free rfl), trivial⟩
    ·replace h := cond_f h b2
     refine s_skip rfl rfl rfl ?_
     refine s_skip rfl rfl rfl ?_
     refine s_skip rfl rfl rfl ?_
     refine s_skip rfl rfl rfl ?_
     refine s_skip rfl rfl rfl ?_
     refine s_skip rfl rfl rfl ?_
     refine s_skip rfl rfl rfl ?_
     refine s_skip rfl rfl rfl ?_
     refine s_pickF rfl rfl (v := .sc (.bool false)) rfl rfl rfl rfl ?_
     refine rt_nil ?_
     refine Exists.intro ⟨false, h⟩ ?_
     refine entX [((2003, 0), ⟨9, 1, List.map strV v0_0, false, true⟩, some (2003, 0))] [] ⟨⟨rfl, _, rfl, rfl, rfl, rfl, id, rowsCv_eq rfl (allFree_map strV_free), rowsZ_map strV_len⟩, trivial⟩ trivial rfl rfl ?_
     exact ⟨(.free rfl), (.ref rfl), (.free rfl), (.free rfl), trivial⟩
   ·rintro ⟨j1_0, h⟩
    replace h : s_Hosts_j1 v0_0 v0_1 e0 (s_Hosts_l0 rs0) j1_0 = some r0 := h
    unfold s_Hosts_j1 at h
    show Tri _ _ _ (inv_s_Hosts_1 p0 v0_0 v0_1 j1_0)
    refine tri_cond rfl (fun c2 => ?_) (fun c2 => ?_)
    ·replace h := cond_t h c2
     refine tri_region ?_
     refine m1 ?_
     refine m1 ?_
     refine m1 ?_
     refine s_indexF (i := v0_1) rfl rfl rfl sl24 (get_ltM hx0) rfl rfl rfl ?_
     refine s_fieldAddrF rfl rfl fd39_4 rfl rfl rfl rfl ?_
     refine s_loadF rfl rfl (rowG hx0) ty9 rfl (.inr rfl) (by conv => lhs; whnf) rfl rfl rfl ?_
     refine s_buildSlice (rows' := List.map strV [e0.host]) rfl rfl rfl sl33 zc9 rfl rfl rfl rfl rfl rfl rfl rfl rfl ?_
     refine grd_elim h fun g3 h => ?_
     refine s_appL rfl rfl rfl sl33 zc9 rfl rfl rfl rfl rfl rfl (src_refL rfl rfl) g3 rfl rfl ?_
     refine m2 ?_
     refine rt_nil ?_
     refine tri_region ?_
     refine m1 ?_
     refine s_inc (a := v0_1) (b := 1) rfl rfl rfl rfl (by have := get_lt hx0; have := hl0; omega) rfl rfl rfl ?_
     refine m2 ?_
     refine rt_nil ?_
     refine Exists.intro ⟨(rs0, v0_0 ++ [e0.host], (v0_1 + 1)), hn0, h⟩ (And.intro (Nat.lt_succ_self _) ?_)
     refine entX [((2003, 0), ⟨9, 1, List.map strV (v0_0 ++ [e0.host]), false, true⟩, some (35, 0))] [] ⟨⟨rfl, _, rfl, rfl, rfl, rfl, id, rowsCv_eq rfl (allFree_map strV_free), rowsZ_map strV_len⟩, trivial⟩ trivial rfl rfl ?_
     exact ⟨(.free rfl), (.ref rfl), (.free rfl), trivial⟩
    ·replace h := cond_f h c2
     refine tri_skip ?_
     refine tri_region ?_
     refine m1 ?_
     refine s_inc (a := v0_1) (b := 1) rfl rfl rfl rfl (by have := get_lt hx0; have := hl0; omega) rfl rfl rfl ?_
     refine m2 ?_
     refine rt_nil ?_
     refine Exists.intro ⟨(rs0, v0_0, (v0_1 + 1)), hn0, h⟩ (And.intro (Nat.lt_succ_self _) ?_)
     refine entX [((2003, 0), ⟨9, 1, List.map strV v0_0, false, true⟩, some (2003, 0))] [] ⟨⟨rfl, _, rfl, rfl, rfl, rfl, id, rowsCv_eq rfl (allFree_map strV_free), rowsZ_map strV_len⟩, trivial⟩ trivial rfl rfl ?_
     exact ⟨(.free rfl), (.ref rfl), (.free rfl), trivial⟩
  ·have he := drop_f hd0 c1; subst he
   rw [s_Hosts_l0] at h
   refine tri_exit ?_
   refine tri_sr ?_
   refine m1 ?_
   refine m2 ?_
   refine rt_nil ?_
   refine tri_ret ?_
   have e0 := (some1 h); subst e0
   exact endY (v' := .ref (2000, 0) 0 v0_0.length) [((2000, 0), ⟨9, 1, List.map strV v0_0, false, true⟩, some (2003, 0))] [] (rvC (resTmp rfl) rvN) ⟨⟨rfl, _, rfl, rfl, rfl, rfl, id, rowsCv_eq rfl (allFree_map strV_free), rowsZ_map strV_len⟩, trivial⟩ trivial rfl rfl (by kernel_rfl) (by simp only [V.mat, V.mat1, V.mat0, matL, matT, List.length_map] <;> rfl) (.ref rfl)

/- spec.Glue -/
def inv_s_Glue_0 (p0 : MZone) (p1 : List ByteArray) (v0_0 : List Rec) (v0_1 : Nat) : St := mkT 24 [(1, .lst 1 (List.map strV p1)), (2, .ptr (2, 0) 0 0), (5, .ref (2005, 0) 0 v0_0.length), (6, .sc (.int .i64 (v0_1 : Int)))] [((2, 0), some ⟨26, 2, [[.sc (.string p0.apex), .lst 6 (List.map recV p0.l)]], false, true⟩), ((2005, 0), some ⟨39, 6, List.map recV v0_0, false, true⟩)]
set_option maxRecDepth 4000 in
set_option maxHeartbeats 800000 in
theorem ws_Glue (p0 : MZone) (p1 : List ByteArray) (r0 : List Rec) (h : s_Glue p0 p1 = some r0) : Runs Tryd.prog 73 [.agg (mZoneV p0), .lst 1 (List.map strV p1)] [] (.own 39 6 (List.map recV r0)) [] := by
 unfold s_Glue at h
 refine runsR [.tmp 4] Tryd.func73 rfl rfl rfl rfl ?_
 rw [Tryd.ntmps73]
 refine tri_sr ?_
 refine s_box rfl rfl rfl rfl rfl rfl rfl ?_
 refine s_mv (.inr rfl) (v := .nils) rfl rfl rfl rfl ?_
 refine rt_nil ?_
 refine tri_sr ?_
 refine s_buildSlice (rows' := List.map recV ([] : List Rec)) rfl rfl rfl sl24 zc39 rfl rfl rfl rfl rfl rfl rfl rfl rfl ?_
 refine m2 ?_
 refine rt_nil ?_
 refine tri_seq ?_
 refine tri_sr ?_
 refine s_mv (.inr rfl) (v := .sc (.int .i64 0)) rfl rfl rfl rfl ?_
 refine rt_nil ?_
 refine tri_block ?_
 refine tri_lstM 1 rfl (fun hl0 => ?_)
 refine tri_loop (ι := { p : (List ByteArray) × (List Rec) × Nat // p1.drop p.2.2 = p.1 ∧ s_Glue_l0 p0 p.1 p.2.1 p.2.2 = some r0 }) (fun p => inv_s_Glue_0 p0 p1 p.1.2.1 p.1.2.2) (fun p => p.1.1.length) ⟨(p1, ([] : List Rec), 0), rfl, h⟩ ?_ ?_
 ·skip
  refine entX [((2, 0), ⟨26, 2, [[.sc (.string p0.apex), .lst 6 (List.map recV p0.l)]], false, true⟩, some (2, 0)), ((2005, 0), ⟨39, 6, List.map recV ([] : List Rec), false, true⟩, some (7, 0))] [] ⟨⟨rfl, _, rfl, rfl, rfl, rfl, id, rowsCv_one (.cons (.free rfl) (.cons (.free rfl) .nil)), rowsZ_one rfl⟩, ⟨rfl, _, rfl, rfl, rfl, rfl, id, rowsCv_eq rfl (allFree_map recV_free), rowsZ_map recV_len⟩, trivial⟩ trivial rfl rfl ?_
  exact ⟨(.free rfl), (.ptr rfl), (.ref rfl), (.free rfl), trivial⟩
 ·rintro ⟨⟨lrs0, v0_0, v0_1⟩, hd0, h⟩
  replace hd0 : p1.drop v0_1 = lrs0 := hd0
  replace h : s_Glue_l0 p0 lrs0 v0_0 v0_1 = some r0 := h
  show Tri _ _ _ (inv_s_Glue_0 p0 p1 v0_0 v0_1)
  refine tri_seq ?_
  refine tri_sr ?_
  refine m1 ?_
  refine m1 ?_
  refine s_lenL rfl sl33 rfl rfl rfl rfl ?_
  refine s_of (st_lss rfl rfl rfl) rfl rfl rfl rfl ?_
  refine rt_nil ?_
  refine tri_cond rfl (fun c1 => ?_) (fun c1 => ?_)
  ·refine drop_elim hd0 c1 fun e0 rs0 he hx0 hn0 => ?_
   subst he
   rw [s_Glue_l0] at h
   refine tri_skip ?_
   refine tri_seq ?_
   refine tri_block ?_
   refine tri_draw mixed ?_
   refine m1 ?_
   refine s_fieldAddr rfl rfl fd26_1 rfl rfl rfl rfl ?_
   refine s_load rfl rfl rfl rfl ty24 rfl (.inr rfl) (by conv => lhs; whnf) rfl rfl rfl ?_
   refine m1 ?_
   refine m1 ?_
   refine s_indexF (i := v0_1) rfl rfl rfl sl33 (get_ltM hx0) rfl rfl rfl ?_
   refine s_loadF rfl rfl (rowG hx0) ty9 rfl (.inr rfl) (by conv => lhs; whnf) rfl rfl rfl ?_
   refine bnd1_elim h fun x2 q3 h => ?_
   refine s_callN (kb := []) (ns := []) (v := .ref (21, 0) 0 x2.length) rfl rfl cl128 (ws_SetOf p0.l e0 1 x2 q3) rfl (.cons (.free rfl) (.cons (.free rfl) (.cons (.free rfl) .nil))) trivial memNil .nil memNil rfl ⟨(allSc_map recV_sc), trivial⟩ memNil rfl (by simp only [V.mat, V.mat1, V.mat0, matL, matT, List.length_map] <;> rfl) rfl rfl rfl rfl ?_
   refine grd_elim h fun g4 h => ?_
   refine s_appL rfl rfl rfl sl24 zc39 rfl rfl rfl rfl rfl rfl (src_refL rfl rfl) g4 rfl rfl ?_
   refine m2 ?_
   refine rt_nil ⟨by kernel_rfl, ?_⟩
   refine tri_region ?_
   refine m1 ?_
   refine s_inc (a := v0_1) (b := 1) rfl rfl rfl rfl (by have := get_lt hx0; have := hl0; omega) rfl rfl rfl ?_
   refine m2 ?_
   refine rt_nil ?_
   refine Exists.intro ⟨(rs0, v0_0 ++ x2, (v0_1 + 1)), hn0, h⟩ (And.intro (Nat.lt_succ_self _) ?_)
   refine entX [((2, 0), ⟨26, 2, [[.sc (.string p0.apex), .lst 6 (List.map recV p0.l)]], false, true⟩, some (2, 0)), ((2005, 0), ⟨39, 6, List.map recV (v0_0 ++ x2), false, true⟩, some (22, 0))] [] ⟨⟨rfl, _, rfl, rfl, rfl, rfl, id, rowsCv_one (.cons (.free rfl) (.cons (.free rfl) .nil)), rowsZ_one rfl⟩, ⟨rfl, _, rfl, rfl, rfl, rfl, id, rowsCv_eq rfl (allFree_map recV_free), rowsZ_map recV_len⟩, trivial⟩ trivial rfl rfl ?_
   exact ⟨(.free rfl), (.ptr rfl), (.ref rfl), (.free rfl), trivial⟩
  ·have he := drop_f hd0 c1; subst he
   rw [s_Glue_l0] at h
   refine tri_exit ?_
   refine tri_sr ?_
   refine m1 ?_
   refine m2 ?_
   refine rt_nil ?_
   refine tri_ret ?_
   have e0 := (some1 h); subst e0
   exact endY (v' := .ref (2000, 0) 0 v0_0.length) [((2000, 0), ⟨39, 6, List.map recV v0_0, false, true⟩, some (2005, 0))] [] (rvC (resTmp rfl) rvN) ⟨⟨rfl, _, rfl, rfl, rfl, rfl, id, rowsCv_eq rfl (allFree_map recV_free), rowsZ_map recV_len⟩, trivial⟩ trivial rfl rfl (by kernel_rfl) (by simp only [V.mat, V.mat1, V.mat0, matL, matT, List.length_map] <;> rfl) (.ref rfl)

/- spec.HelpIn -/

set_option maxRecDepth 4000 in
set_option maxHeartbeats 800000 in
theorem ws_HelpIn (p0 : MZone) (p1 : Quest) (r0 : List Rec) (h : s_HelpIn p0 p1 = some r0) : Runs Tryd.prog 62 [.agg (mZoneV p0), .agg (questV p1)] [] (.own 39 6 (List.map recV r0)) [] := by
 unfold s_HelpIn at h
 refine runsR [.tmp 4] Tryd.func62 rfl rfl rfl rfl ?_
 rw [Tryd.ntmps62]
 refine tri_sr ?_
 refine s_box rfl rfl rfl rfl rfl rfl rfl ?_
 refine s_box rfl rfl rfl rfl rfl rfl rfl ?_
 refine s_mv (.inr rfl) (v := .nils) rfl rfl rfl rfl ?_
 refine rt_nil ?_
 refine tri_seq ?_
 refine tri_sr ?_
 refine s_loadR rfl rfl rfl rfl ty26 rfl rfl rfl ?_
 refine s_loadR rfl rfl rfl rfl ty28 rfl rfl rfl ?_
 refine bnd1_elim h fun x1 q2 h => ?_
 refine s_callN (kb := []) (ns := []) (v := .sc (.int .i64 x1)) rfl rfl cl49 (ws_KindIn p0 p1 x1 q2) rfl (.cons (relAgg rfl) (.cons (relAgg rfl) .nil)) trivial memNil .nil memNil rfl trivial memNil rfl rfl rfl rfl rfl rfl ?_
 refine s_of (st_neI rfl rfl rfl) rfl rfl rfl rfl ?_
 refine rt_nil ?_
 refine tri_cond rfl (fun c3 => ?_) (fun c3 => ?_)
 ·replace h := cond_t h c3
  refine tri_sr ?_
  refine s_buildSlice (rows' := List.map recV ([] : List Rec)) rfl rfl rfl sl24 zc39 rfl rfl rfl rfl rfl rfl rfl rfl rfl ?_
  refine m2 ?_
  refine rt_nil ?_
  refine tri_ret ?_
  have e0 := (some1 h); subst e0
  exact endY (v' := .ref (2000, 0) 0 (([] : List Rec).length)) [((2000, 0), ⟨39, 6, List.map recV ([] : List Rec), false, true⟩, some (9, 0))] [] (rvC (resTmp rfl) rvN) ⟨⟨rfl, _, rfl, rfl, rfl, rfl, id, rowsCv_eq rfl (allFree_map recV_free), rowsZ_map recV_len⟩, trivial⟩ trivial rfl rfl (by kernel_rfl) (by simp only [V.mat, V.mat1, V.mat0, matL, matT, List.length_map] <;> rfl) (.ref rfl)
 ·replace h := cond_f h c3
  refine tri_skip ?_
  refine tri_seq ?_
  refine tri_draw mixed ?_
  refine s_loadR rfl rfl rfl rfl ty26 rfl rfl rfl ?_
  refine s_loadR rfl rfl rfl rfl ty26 rfl rfl rfl ?_
  refine s_loadR rfl rfl rfl rfl ty28 rfl rfl rfl ?_
  refine bnd1_elim h fun x4 q5 h => ?_
  refine s_callN (kb := []) (ns := []) (v := .ref (13, 0) 0 x4.length) rfl rfl cl60 (ws_MoreIn p0 p1 x4 q5) rfl (.cons (relAgg rfl) (.cons (relAgg rfl) .nil)) trivial memNil .nil memNil rfl ⟨(allSc_map recV_sc), trivial⟩ memNil rfl (by simp only [V.mat, V.mat1, V.mat0, matL, matT, List.length_map] <;> rfl) rfl rfl rfl rfl ?_
  refine bnd1_elim h fun x6 q7 h => ?_
  refine s_callN (kb := [(13, 0)]) (ns := []) (v := .ref (14, 0) 0 x6.length) rfl rfl cl42 (ws_Hosts x4 x6 q7) rfl (.cons (lendL rfl (.head _) rfl recV_free recV_len) .nil) trivial memNil .nil (fun _ _ => List.not_mem_nil) rfl ⟨(allSc_map strV_sc), trivial⟩ memNil rfl (by simp only [V.mat, V.mat1, V.mat0, matL, matT, List.length_map] <;> rfl) rfl rfl rfl rfl ?_
  refine bnd1_elim h fun x8 q9 h => ?_
  refine s_callN (kb := [(14, 0)]) (ns := []) (v := .ref (15, 0) 0 x8.length) rfl rfl cl73 (ws_Glue p0 x6 x8 q9) rfl (.cons (relAgg rfl) (.cons (lendL rfl (.head _) rfl strV_free strV_len) .nil)) trivial memNil .nil (fun _ _ => List.not_mem_nil) rfl ⟨(allSc_map recV_sc), trivial⟩ memNil rfl (by simp only [V.mat, V.mat1, V.mat0, matL, matT, List.length_map] <;> rfl) rfl rfl rfl rfl ?_
  refine m2 ?_
  refine rt_nil ⟨by kernel_rfl, ?_⟩
  refine tri_ret ?_
  have e0 := (some1 h); subst e0
  exact endY (v' := .ref (2000, 0) 0 x8.length) [((2000, 0), ⟨39, 6, List.map recV x8, false, true⟩, some (15, 0))] [] (rvC (resTmp rfl) rvN) ⟨⟨rfl, _, rfl, rfl, rfl, rfl, id, rowsCv_eq rfl (allFree_map recV_free), rowsZ_map recV_len⟩, trivial⟩ trivial rfl rfl (by kernel_rfl) (by simp only [V.mat, V.mat1, V.mat0, matL, matT, List.length_map] <;> rfl) (.ref rfl)

/- spec.Serve -/
def inv_s_Serve_1 (p0 : MZone) (p1 : MMsg) (j0_0 : Int) (j1_0 : Bool) : St := mkT 42 [(2, .ptr (2, 0) 0 0), (3, .ptr (3, 0) 0 0), (4, .ptr (4, 0) 0 0), (6, .sc (.int .i64 j0_0)), (7, .sc (.bool j1_0))] [((2, 0), some ⟨26, 2, [[.sc (.string p0.apex), .lst 6 (List.map recV p0.l)]], false, true⟩), ((3, 0), some ⟨50, 12, [[.sc (.int .i64 p1.id), .sc (.bool p1.reply), .sc (.bool p1.auth), .sc (.bool p1.cut), .sc (.bool p1.want), .sc (.bool p1.can), .sc (.int .i64 p1.code), .sc (.string p1.q.name), .sc (.int .i64 p1.q.ty), .lst 6 (List.map recV p1.an), .lst 6 (List.map recV p1.au), .lst 6 (List.map recV p1.ad)]], false, true⟩), ((4, 0), some ⟨50, 12, [[.sc (.int .i64 0), .sc (.bool false), .sc (.bool false), .sc (.bool false), .sc (.bool false), .sc (.bool false), .sc (.int .i64 0), .sc (.string (⟨#[]⟩ : ByteArray)), .sc (.int .i64 0), .nils, .nils, .nils]], false, true⟩)]
def inv_s_Serve_0 (p0 : MZone) (p1 : MMsg) (x1 : Int) (j0_0 : Int) : St := mkT 42 [(2, .ptr (2, 0) 0 0), (3, .ptr (3, 0) 0 0), (4, .ptr (4, 0) 0 0), (5, .sc (.int .i64 x1)), (6, .sc (.int .i64 j0_0))] [((2, 0), some ⟨26, 2, [[.sc (.string p0.apex), .lst 6 (List.map recV p0.l)]], false, true⟩), ((3, 0), some ⟨50, 12, [[.sc (.int .i64 p1.id), .sc (.bool p1.reply), .sc (.bool p1.auth), .sc (.bool p1.cut), .sc (.bool p1.want), .sc (.bool p1.can), .sc (.int .i64 p1.code), .sc (.string p1.q.name), .sc (.int .i64 p1.q.ty), .lst 6 (List.map recV p1.an), .lst 6 (List.map recV p1.au), .lst 6 (List.map recV p1.ad)]], false, true⟩), ((4, 0), some ⟨50, 12, [[.sc (.int .i64 0), .sc (.bool false), .sc (.bool false), .sc (.bool false), .sc (.bool false), .sc (.bool false), .sc (.int .i64 0), .sc (.string (⟨#[]⟩ : ByteArray)), .sc (.int .i64 0), .nils, .nils, .nils]], false, true⟩)]
set_option maxRecDepth 4000 in
set_option maxHeartbeats 800000 in
theorem ws_Serve (p0 : MZone) (p1 : MMsg) (r0 : MMsg) (h : s_Serve p0 p1 = some r0) : Runs Tryd.prog 51 [.agg (mZoneV p0), .agg (mMsgV p1)] [] (.agg [.sc (.int .i64 r0.id), .sc (.bool r0.reply), .sc (.bool r0.auth), .sc (.bool r0.cut), .sc (.bool r0.want), .sc (.bool r0.can), .sc (.int .i64 r0.code), .sc (.string r0.q.name), .sc (.int .i64 r0.q.ty), .own 39 6 (List.map recV r0.an), .own 39 6 (List.map recV r0.au), .own 39 6 (List.map recV r0.ad)]) [] := by
 unfold s_Serve at h
 refine runsR [.cell 4 50] Tryd.func51 rfl rfl rfl rfl ?_
 rw [Tryd.ntmps51]
 refine tri_sr ?_
 refine s_box rfl rfl rfl rfl rfl rfl rfl ?_
 refine s_box rfl rfl rfl rfl rfl rfl rfl ?_
 refine s_alloc rfl rfl rfl zc50 rfl rfl rfl rfl rfl ?_
 refine rt_nil ?_
 refine tri_sr ?_
 refine s_loadR rfl rfl rfl rfl ty26 rfl rfl rfl ?_
 refine s_fieldAddr rfl rfl fd50_7 rfl rfl rfl rfl ?_
 refine s_load (v := .agg (questV p1.q)) rfl rfl rfl rfl ty28 rfl (.inl rfl) rfl rfl rfl rfl ?_
 refine bnd1_elim h fun x1 q2 h => ?_
 refine s_callN (kb := []) (ns := []) (v := .sc (.int .i64 x1)) rfl rfl cl49 (ws_KindIn p0 p1.q x1 q2) rfl (.cons (relAgg rfl) (.cons (relAgg rfl) .nil)) trivial memNil .nil memNil rfl trivial memNil rfl rfl rfl rfl rfl rfl ?_
 refine m2 ?_
 refine rt_nil ?_
 refine tri_sr ?_
 refine s_mv (.inr rfl) (v := .sc (.int .i64 0)) rfl rfl rfl rfl ?_
 refine rt_nil ?_
 refine tri_cutI (ι := { p : Int // s_Serve_j0 p0 p1 x1 p = some r0 }) (fun p => inv_s_Serve_0 p0 p1 x1 p.1) ?_ ?_
 ·skip
  refine tri_sr ?_
  refine m1 ?_
  refine rt_nil ?_
  refine tri_block ?_
  refine tri_sr ?_
  refine s_of (st_eqI rfl rfl rfl) rfl rfl rfl rfl ?_
  refine m2 ?_
  refine rt_nil ?_
  refine tri_cond rfl (fun c3 => ?_) (fun c3 => ?_)
  ·replace h := cond_t h c3
   refine tri_region ?_
   refine s_mv (.inr rfl) (v := .sc (.int .i64 5)) rfl rfl rfl rfl ?_
   refine rt_nil ?_
   refine Exists.intro ⟨5, h⟩ ?_
   refine entX [((2, 0), ⟨26, 2, [[.sc (.string p0.apex), .lst 6 (List.map recV p0.l)]], false, true⟩, some (2, 0)), ((3, 0), ⟨50, 12, [[.sc (.int .i64 p1.id), .sc (.bool p1.reply), .sc (.bool p1.auth), .sc (.bool p1.cut), .sc (.bool p1.want), .sc (.bool p1.can), .sc (.int .i64 p1.code), .sc (.string p1.q.name), .sc (.int .i64 p1.q.ty), .lst 6 (List.map recV p1.an), .lst 6 (List.map recV p1.au), .lst 6 (List.map recV p1.ad)]], false, true⟩, some (3, 0)), ((4, 0), ⟨50, 12, [[.sc (.int .i64 0), .sc (.bool false), .sc (.bool false), .sc (.bool false), .sc (.bool false), .sc (.bool false), .sc (.int .i64 0), .sc (.string (⟨#[]⟩ : ByteArray)), .sc (.int .i64 0), .nils, .nils, .nils]], false, true⟩, some (4, 0))] [] ⟨⟨rfl, _, rfl, rfl, rfl, rfl, id, rowsCv_one (.cons (.free rfl) (.cons (.free rfl) .nil)), rowsZ_one rfl⟩, ⟨rfl, _, rfl, rfl, rfl, rfl, id, rowsCv_one (.cons (.free rfl) (.cons (.free rfl) (.cons (.free rfl) (.cons (.free rfl) (.cons (.free rfl) (.cons (.free rfl) (.cons (.free rfl) (.cons (.free rfl) (.cons (.free rfl) (.cons (.free rfl) (.cons (.free rfl) (.cons (.free rfl) .nil)))))))))))), rowsZ_one rfl⟩, ⟨rfl, _, rfl, rfl, rfl, rfl, id, rowsCv_one (.cons (.free rfl) (.cons (.free rfl) (.cons (.free rfl) (.cons (.free rfl) (.cons (.free rfl) (.cons (.free rfl) (.cons (.free rfl) (.cons (.free rfl) (.cons (.free rfl) (.cons (.free rfl) (.cons (.free rfl) (.cons (.free rfl) .nil)))))))))))), rowsZ_one rfl⟩, trivial⟩ trivial rfl rfl ?_
   exact ⟨(.ptr rfl), (.ptr rfl), (.ptr rfl), (.free rfl), (.free rfl), trivial⟩
  ·replace h := cond_f h c3
   refine tri_sr ?_
   refine s_of (st_eqI rfl rfl rfl) rfl rfl rfl rfl ?_
   refine m2 ?_
   refine rt_nil ?_
   refine tri_cond rfl (fun c4 => ?_) (fun c4 => ?_)
   ·replace h := cond_t h c4
    refine tri_region ?_
    refine s_mv (.inr rfl) (v := .sc (.int .i64 3)) rfl rfl rfl rfl ?_
    refine rt_nil ?_
    refine Exists.intro ⟨3, h⟩ ?_
    refine entX [((2, 0), ⟨26, 2, [[.sc (.string p0.apex), .lst 6 (List.map recV p0.l)]], false, true⟩, some (2, 0)), ((3, 0), ⟨50, 12, [[.sc (.int .i64 p1.id), .sc (.bool p1.reply), .sc (.bool p1.auth), .sc (.bool p1.cut), .sc (.bool p1.want), .sc (.bool p1.can), .sc (.int .i64 p1.code), .sc (.string p1.q.name), .sc (.int .i64 p1.q.ty), .lst 6 (List.map recV p1.an), .lst 6 (List.map recV p1.au), .lst 6 (List.map recV p1.ad)]], false, true⟩, some (3, 0)), ((4, 0), ⟨50, 12, [[.sc (.int .i64 0), .sc (.bool false), .sc (.bool false), .sc (.bool false), .sc (.bool false), .sc (.bool false), .sc (.int .i64 0), .sc (.string (⟨#[]⟩ : ByteArray)), .sc (.int .i64 0), .nils, .nils, .nils]], false, true⟩, some (4, 0))] [] ⟨⟨rfl, _, rfl, rfl, rfl, rfl, id, rowsCv_one (.cons (.free rfl) (.cons (.free rfl) .nil)), rowsZ_one rfl⟩, ⟨rfl, _, rfl, rfl, rfl, rfl, id, rowsCv_one (.cons (.free rfl) (.cons (.free rfl) (.cons (.free rfl) (.cons (.free rfl) (.cons (.free rfl) (.cons (.free rfl) (.cons (.free rfl) (.cons (.free rfl) (.cons (.free rfl) (.cons (.free rfl) (.cons (.free rfl) (.cons (.free rfl) .nil)))))))))))), rowsZ_one rfl⟩, ⟨rfl, _, rfl, rfl, rfl, rfl, id, rowsCv_one (.cons (.free rfl) (.cons (.free rfl) (.cons (.free rfl) (.cons (.free rfl) (.cons (.free rfl) (.cons (.free rfl) (.cons (.free rfl) (.cons (.free rfl) (.cons (.free rfl) (.cons (.free rfl) (.cons (.free rfl) (.cons (.free rfl) .nil)))))))))))), rowsZ_one rfl⟩, trivial⟩ trivial rfl rfl ?_
    exact ⟨(.ptr rfl), (.ptr rfl), (.ptr rfl), (.free rfl), (.free rfl), trivial⟩
   ·replace h := cond_f h c4
    refine tri_skip ?_
    refine Exists.intro ⟨0, h⟩ ?_
    refine entX [((2, 0), ⟨26, 2, [[.sc (.string p0.apex), .lst 6 (List.map recV p0.l)]], false, true⟩, some (2, 0)), ((3, 0), ⟨50, 12, [[.sc (.int .i64 p1.id), .sc (.bool p1.reply), .sc (.bool p1.auth), .sc (.bool p1.cut), .sc (.bool p1.want), .sc (.bool p1.can), .sc (.int .i64 p1.code), .sc (.string p1.q.name), .sc (.int .i64 p1.q.ty), .lst 6 (List.map recV p1.an), .lst 6 (List.map recV p1.au), .lst 6 (List.map recV p1.ad)]], false, true⟩, some (3, 0)), ((4, 0), ⟨50, 12, [[.sc (.int .i64 0), .sc (.bool false), .sc (.bool false), .sc (.bool false), .sc (.bool false), .sc (.bool false), .sc (.int .i64 0), .sc (.string (⟨#[]⟩ : ByteArray)), .sc (.int .i64 0), .nils, .nils, .nils]], false, true⟩, some (4, 0))] [] ⟨⟨rfl, _, rfl, rfl, rfl, rfl, id, rowsCv_one (.cons (.free rfl) (.cons (.free rfl) .nil)), rowsZ_one rfl⟩, ⟨rfl, _, rfl, rfl, rfl, rfl, id, rowsCv_one (.cons (.free rfl) (.cons (.free rfl) (.cons (.free rfl) (.cons (.free rfl) (.cons (.free rfl) (.cons (.free rfl) (.cons (.free rfl) (.cons (.free rfl) (.cons (.free rfl) (.cons (.free rfl) (.cons (.free rfl) (.cons (.free rfl) .nil)))))))))))), rowsZ_one rfl⟩, ⟨rfl, _, rfl, rfl, rfl, rfl, id, rowsCv_one (.cons (.free rfl) (.cons (.free rfl) (.cons (.free rfl) (.cons (.free rfl) (.cons (.free rfl) (.cons (.free rfl) (.cons (.free rfl) (.cons (.free rfl) (.cons (.free rfl) (.cons (.free rfl) (.cons (.free rfl) (.cons (.free rfl) .nil)))))))))))), rowsZ_one rfl⟩, trivial⟩ trivial rfl rfl ?_
    exact ⟨(.ptr rfl), (.ptr rfl), (.ptr rfl), (.free rfl), (.free rfl), trivial⟩
 ·rintro ⟨j0_0, h⟩
  replace h : s_Serve_j0 p0 p1 x1 j0_0 = some r0 := h
  unfold s_Serve_j0 at h
  show Tri _ _ _ (inv_s_Serve_0 p0 p1 x1 j0_0)
  refine tri_cutI (ι := { p : Bool // s_Serve_j1 p0 p1 j0_0 p = some r0 }) (fun p => inv_s_Serve_1 p0 p1 j0_0 p.1) ?_ ?_
  ·skip
   refine tri_region ?_
   refine m1 ?_
   refine s_of (st_neI rfl rfl rfl) rfl rfl rfl rfl ?_
   refine m1 ?_
   refine s_split (t := 19) rfl (fun b3 => ?_) (fun b3 => ?_)
   ·replace h := cond_t h b3
    refine m1 ?_
    refine s_of (st_neI rfl rfl rfl) rfl rfl rfl rfl ?_
    refine s_pickT rfl rfl (by conv => lhs; whnf) rfl rfl rfl ?_
    refine m2 ?_
    refine rt_nil ?_
    refine Exists.intro ⟨!decide (x1 = 1), h⟩ ?_
    refine entX [((2, 0), ⟨26, 2, [[.sc (.string p0.apex), .lst 6 (List.map recV p0.l)]], false, true⟩, some (2, 0)), ((3, 0), ⟨50, 12, [[.sc (.int .i64 p1.id), .sc (.bool p1.reply), .sc (.bool p1.auth), .sc (.bool p1.cut), .sc (.bool p1.want), .sc (.bool p1.can), .sc (.int .i64 p1.code), .sc (.string p1.q.name), .sc (.int .i64 p1.q.ty), .lst 6 (List.map recV p1.an), .lst 6 (List.map recV p1.au), .lst 6 (List.map recV p1.ad)]], false, true⟩, some (3, 0)), ((4, 0), ⟨50, 12, [[.sc (.int .i64 0), .sc (.bool false), .sc (.bool false), .sc (.bool false), .sc (.bool false), .sc (.bool false), .sc (.int .i64 0), .sc (.string (⟨#[]⟩ : ByteArray)), .sc (.int .i64 0), .nils, .nils, .nils]], false, true⟩, some (4, 0))] [] ⟨⟨rfl, _, rfl, rfl, rfl, rfl, id, rowsCv_one (.cons (.free rfl) (.cons (.free rfl) .nil)), rowsZ_one rfl⟩, ⟨rfl, _, rfl, rfl, rfl, rfl, id, rowsCv_one (.cons (.free rfl) (.cons (.free rfl) (.cons (.free rfl) (.cons (.free rfl) (.cons (.free rfl) (.cons (.free rfl) (.cons (.free rfl) (.cons (.free rfl) (.cons (.free rfl) (.cons (.free rfl) (.cons (.free rfl) (.cons (.free rfl) .nil)))))))))))), rowsZ_one rfl⟩, ⟨rfl, _, rfl, rfl, rfl, rfl, id, rowsCv_one (.cons (.free rfl) (.cons (.free rfl) (.cons (.free rfl) (.cons (.free rfl) (.cons (.free rfl) (.cons (.free rfl) (.cons (.free rfl) (.cons (.free rfl) (.cons (.free rfl) (.cons (.free rfl) (.cons (.free rfl) (.cons (.free rfl) .nil)))))))))))), rowsZ_one rfl⟩, trivial⟩ trivial rfl rfl ?_
    exact ⟨(.ptr rfl), (.ptr rfl), (.ptr rfl), (.free rfl), (.free rfl), trivial⟩
   ·replace h := cond_f h b3
    refine s_skip rfl rfl rfl ?_
    refine s_skip rfl rfl rfl ?_
    refine s_pickF rfl rfl (v := .sc (.bool false)) rfl rfl rfl rfl ?_
    refine m2 ?_
    refine rt_nil ?_
    refine Exists.intro ⟨false, h⟩ ?_
    refine entX [((2, 0), ⟨26, 2, [[.sc (.string p0.apex), .lst 6 (List.map recV p0.l)]], false, true⟩, some (2, 0)), ((3, 0), ⟨50, 12, [[.sc (.int .i64 p1.id), .sc (.bool p1.reply), .sc (.bool p1.auth), .sc (.bool p1.cut), .sc (.bool p1.want), .sc (.bool p1.can), .sc (.int .i64 p1.code), .sc (.string p1.q.name), .sc (.int .i64 p1.q.ty), .lst 6 (List.map recV p1.an), .lst 6 (List.map recV p1.au), .lst 6 (List.map recV p1.ad)]], false, true⟩, some (3, 0)), ((4, 0), ⟨50, 12, [[.sc (.int .i64 0), .sc (.bool false), .sc (.bool false), .sc (.bool false), .sc (.bool false), .sc (.bool false), .sc (.int .i64 0), .sc (.string (⟨#[]⟩ : ByteArray)), .sc (.int .i64 0), .nils, .nils, .nils]], false, true⟩, some (4, 0))] [] ⟨⟨rfl, _, rfl, rfl, rfl, rfl, id, rowsCv_one (.cons (.free rfl) (.cons (.free rfl) .nil)), rowsZ_one rfl⟩, ⟨rfl, _, rfl, rfl, rfl, rfl, id, rowsCv_one (.cons (.free rfl) (.cons (.free rfl) (.cons (.free rfl) (.cons (.free rfl) (.cons (.free rfl) (.cons (.free rfl) (.cons (.free rfl) (.cons (.free rfl) (.cons (.free rfl) (.cons (.free rfl) (.cons (.free rfl) (.cons (.free rfl) .nil)))))))))))), rowsZ_one rfl⟩, ⟨rfl, _, rfl, rfl, rfl, rfl, id, rowsCv_one (.cons (.free rfl) (.cons (.free rfl) (.cons (.free rfl) (.cons (.free rfl) (.cons (.free rfl) (.cons (.free rfl) (.cons (.free rfl) (.cons (.free rfl) (.cons (.free rfl) (.cons (.free rfl) (.cons (.free rfl) (.cons (.free rfl) .nil)))))))))))), rowsZ_one rfl⟩, trivial⟩ trivial rfl rfl ?_
    exact ⟨(.ptr rfl), (.ptr rfl), (.ptr rfl), (.free rfl), (.free rfl), trivial⟩
  ·rintro ⟨j1_0, h⟩
   replace h : s_Serve_j1 p0 p1 j0_0 j1_0 = some r0 := h
   unfold s_Serve_j1 at h
   show Tri _ _ _ (inv_s_Serve_1 p0 p1 j0_0 j1_0)
   refine tri_seq ?_
   refine tri_draw mixed ?_
   refine s_loadR rfl rfl rfl rfl ty50 rfl rfl rfl ?_
   refine m1 ?_
   refine m1 ?_
   refine s_loadR rfl rfl rfl rfl ty26 rfl rfl rfl ?_
   refine s_fieldAddr rfl rfl fd50_7 rfl rfl rfl rfl ?_
   refine s_load (v := .agg (questV p1.q)) rfl rfl rfl rfl ty28 rfl (.inl rfl) rfl rfl rfl rfl ?_
   refine bnd1_elim h fun x3 q4 h => ?_
   refine s_callN (kb := []) (ns := []) (v := .ref (29, 0) 0 x3.length) rfl rfl cl58 (ws_AnswerIn p0 p1.q x3 q4) rfl (.cons (relAgg rfl) (.cons (relAgg rfl) .nil)) trivial memNil .nil memNil rfl ⟨(allSc_map recV_sc), trivial⟩ memNil rfl (by simp only [V.mat, V.mat1, V.mat0, matL, matT, List.length_map] <;> rfl) rfl rfl rfl rfl ?_
   refine bnd1_elim h fun x5 q6 h => ?_
   refine s_callN (kb := [(29, 0)]) (ns := []) (v := .ref (30, 0) 0 x5.length) rfl rfl cl130 (ws_l11First x3 x5 q6) rfl (.cons (lendL rfl (.head _) rfl recV_free recV_len) .nil) trivial memNil .nil (fun _ _ => List.not_mem_nil) rfl ⟨(allSc_map recV_sc), trivial⟩ memNil rfl (by simp only [V.mat, V.mat1, V.mat0, matL, matT, List.length_map] <;> rfl) rfl rfl rfl rfl ?_
   refine s_loadR rfl rfl rfl rfl ty26 rfl rfl rfl ?_
   refine s_fieldAddr rfl rfl fd50_7 rfl rfl rfl rfl ?_
   refine s_load (v := .agg (questV p1.q)) rfl rfl rfl rfl ty28 rfl (.inl rfl) rfl rfl rfl rfl ?_
   refine bnd1_elim h fun x7 q8 h => ?_
   refine s_callN (kb := []) (ns := []) (v := .ref (34, 0) 0 x7.length) rfl rfl cl60 (ws_MoreIn p0 p1.q x7 q8) rfl (.cons (relAgg rfl) (.cons (relAgg rfl) .nil)) trivial memNil .nil memNil rfl ⟨(allSc_map recV_sc), trivial⟩ memNil rfl (by simp only [V.mat, V.mat1, V.mat0, matL, matT, List.length_map] <;> rfl) rfl rfl rfl rfl ?_
   refine bnd1_elim h fun x9 q10 h => ?_
   refine s_callN (kb := [(34, 0)]) (ns := []) (v := .ref (35, 0) 0 x9.length) rfl rfl cl130 (ws_l11First x7 x9 q10) rfl (.cons (lendL rfl (.head _) rfl recV_free recV_len) .nil) trivial memNil .nil (fun _ _ => List.not_mem_nil) rfl ⟨(allSc_map recV_sc), trivial⟩ memNil rfl (by simp only [V.mat, V.mat1, V.mat0, matL, matT, List.length_map] <;> rfl) rfl rfl rfl rfl ?_
   refine s_loadR rfl rfl rfl rfl ty26 rfl rfl rfl ?_
   refine s_fieldAddr rfl rfl fd50_7 rfl rfl rfl rfl ?_
   refine s_load (v := .agg (questV p1.q)) rfl rfl rfl rfl ty28 rfl (.inl rfl) rfl rfl rfl rfl ?_
   refine bnd1_elim h fun x11 q12 h => ?_
   refine s_callN (kb := []) (ns := []) (v := .ref (39, 0) 0 x11.length) rfl rfl cl62 (ws_HelpIn p0 p1.q x11 q12) rfl (.cons (relAgg rfl) (.cons (relAgg rfl) .nil)) trivial memNil .nil memNil rfl ⟨(allSc_map recV_sc), trivial⟩ memNil rfl (by simp only [V.mat, V.mat1, V.mat0, matL, matT, List.length_map] <;> rfl) rfl rfl rfl rfl ?_
   refine bnd1_elim h fun x13 q14 h => ?_
   refine s_callN (kb := [(39, 0)]) (ns := []) (v := .ref (40, 0) 0 x13.length) rfl rfl cl130 (ws_l11First x11 x13 q14) rfl (.cons (lendL rfl (.head _) rfl recV_free recV_len) .nil) trivial memNil .nil (fun _ _ => List.not_mem_nil) rfl ⟨(allSc_map recV_sc), trivial⟩ memNil rfl (by simp only [V.mat, V.mat1, V.mat0, matL, matT, List.length_map] <;> rfl) rfl rfl rfl rfl ?_
   refine bnd1_elim h fun x15 q16 h => ?_
   refine s_callN (kb := [(30, 0), (35, 0), (40, 0)]) (ns := []) (v := .agg [.sc (.int .i64 x15.id), .sc (.bool x15.reply), .sc (.bool x15.auth), .sc (.bool x15.cut), .sc (.bool x15.want), .sc (.bool x15.can), .sc (.int .i64 x15.code), .sc (.string x15.q.name), .sc (.int .i64 x15.q.ty), .ref (41, 9) 0 x15.an.length, .ref (41, 10) 0 x15.au.length, .ref (41, 11) 0 x15.ad.length]) rfl rfl cl129 (ws_ReplyTo p1 j0_0 j1_0 x5 x9 x13 x15 q16) rfl (.cons (relAgg rfl) (.cons (.free rfl) (.cons (.free rfl) (.cons (lendL rfl (.head _) rfl recV_free recV_len) (.cons (lendL rfl (.tail _ (.head _)) rfl recV_free recV_len) (.cons (lendL rfl (.tail _ (.tail _ (.head _))) rfl recV_free recV_len) .nil)))))) trivial memNil .nil (fun _ _ => List.not_mem_nil) rfl ⟨(allSc_map recV_sc), ⟨(allSc_map recV_sc), ⟨(allSc_map recV_sc), trivial⟩⟩⟩ memNil rfl (by simp only [V.mat, V.mat1, V.mat0, matL, matT, List.length_map] <;> rfl) rfl rfl rfl rfl ?_
   refine s_storeB rfl rfl rfl ty50 rfl rfl rfl rfl rfl ?_
   refine rt_nil ⟨by kernel_rfl, ?_⟩
   refine tri_ret ?_
   have e0 := (some1 h); subst e0
   exact endY (v' := .agg [.sc (.int .i64 x15.id), .sc (.bool x15.reply), .sc (.bool x15.auth), .sc (.bool x15.cut), .sc (.bool x15.want), .sc (.bool x15.can), .sc (.int .i64 x15.code), .sc (.string x15.q.name), .sc (.int .i64 x15.q.ty), .ref (2000, 9) 0 x15.an.length, .ref (2000, 10) 0 x15.au.length, .ref (2000, 11) 0 x15.ad.length]) [((2000, 9), ⟨39, 6, List.map recV x15.an, false, true⟩, some (41, 9)), ((2000, 10), ⟨39, 6, List.map recV x15.au, false, true⟩, some (41, 10)), ((2000, 11), ⟨39, 6, List.map recV x15.ad, false, true⟩, some (41, 11))] [] (rvC (resCell rfl rfl ty50) rvN) ⟨⟨rfl, _, rfl, rfl, rfl, rfl, id, rowsCv_eq rfl (allFree_map recV_free), rowsZ_map recV_len⟩, ⟨rfl, _, rfl, rfl, rfl, rfl, id, rowsCv_eq rfl (allFree_map recV_free), rowsZ_map recV_len⟩, ⟨rfl, _, rfl, rfl, rfl, rfl, id, rowsCv_eq rfl (allFree_map recV_free), rowsZ_map recV_len⟩, trivial⟩ trivial rfl rfl (by kernel_rfl) (by simp only [V.mat, V.mat1, V.mat0, matL, matT, List.length_map] <;> rfl) (CvL.agg (.cons (.free rfl) (.cons (.free rfl) (.cons (.free rfl) (.cons (.free rfl) (.cons (.free rfl) (.cons (.free rfl) (.cons (.free rfl) (.cons (.free rfl) (.cons (.free rfl) (.cons (.ref rfl) (.cons (.ref rfl) (.cons (.ref rfl) .nil)))))))))))))

/- spec.ReplyAt -/

set_option maxRecDepth 4000 in
set_option maxHeartbeats 800000 in
theorem ws_ReplyAt (p0 : MForest) (p1 : Int) (p2 : MMsg) (r0 : MMsg) (h : s_ReplyAt p0 p1 p2 = some r0) : Runs Tryd.prog 180 [.agg (mForestV p0), .sc (.int .i64 p1), .agg (mMsgV p2)] [] (.agg [.sc (.int .i64 r0.id), .sc (.bool r0.reply), .sc (.bool r0.auth), .sc (.bool r0.cut), .sc (.bool r0.want), .sc (.bool r0.can), .sc (.int .i64 r0.code), .sc (.string r0.q.name), .sc (.int .i64 r0.q.ty), .own 39 6 (List.map recV r0.an), .own 39 6 (List.map recV r0.au), .own 39 6 (List.map recV r0.ad)]) [] := by
 unfold s_ReplyAt at h
 refine runsR [.cell 6 50] Tryd.func180 rfl rfl rfl rfl ?_
 rw [Tryd.ntmps180]
 refine tri_sr ?_
 refine s_box rfl rfl rfl rfl rfl rfl rfl ?_
 refine s_box rfl rfl rfl rfl rfl rfl rfl ?_
 refine s_alloc rfl rfl rfl zc50 rfl rfl rfl rfl rfl ?_
 refine rt_nil ?_
 refine tri_sr ?_
 refine s_loadR rfl rfl rfl rfl ty45 rfl rfl rfl ?_
 refine m1 ?_
 refine s_fieldAddr rfl rfl fd50_7 rfl rfl rfl rfl ?_
 refine s_fieldAddr rfl rfl fd28_0 rfl rfl rfl rfl ?_
 refine s_load rfl rfl rfl rfl ty9 rfl (.inr rfl) (by conv => lhs; whnf) rfl rfl rfl ?_
 refine bnd1_elim h fun x1 q2 h => ?_
 refine s_callN (kb := []) (ns := []) (v := .sc (.int .i64 x1)) rfl rfl cl203 (ws_ZoneAt p0 p1 p2.q.name x1 q2) rfl (.cons (relAgg rfl) (.cons (.free rfl) (.cons (.free rfl) .nil))) trivial memNil .nil memNil rfl trivial memNil rfl rfl rfl rfl rfl rfl ?_
 refine m2 ?_
 refine rt_nil ?_
 refine tri_seq ?_
 refine tri_sr ?_
 refine m1 ?_
 refine s_of (st_lss rfl rfl rfl) rfl rfl rfl rfl ?_
 refine rt_nil ?_
 refine tri_cond rfl (fun c3 => ?_) (fun c3 => ?_)
 ·replace h := cond_t h c3
  refine tri_sr ?_
  refine s_loadR rfl rfl rfl rfl ty50 rfl rfl rfl ?_
  refine s_buildSlice (rows' := List.map recV ([] : List Rec)) rfl rfl rfl sl24 zc39 rfl rfl rfl rfl rfl rfl rfl rfl rfl ?_
  refine s_buildSlice (rows' := List.map recV ([] : List Rec)) rfl rfl rfl sl24 zc39 rfl rfl rfl rfl rfl rfl rfl rfl rfl ?_
  refine s_buildSlice (rows' := List.map recV ([] : List Rec)) rfl rfl rfl sl24 zc39 rfl rfl rfl rfl rfl rfl rfl rfl rfl ?_
  refine bnd1_elim h fun x4 q5 h => ?_
  refine s_callN (kb := [(17, 0), (18, 0), (19, 0)]) (ns := []) (v := .agg [.sc (.int .i64 x4.id), .sc (.bool x4.reply), .sc (.bool x4.auth), .sc (.bool x4.cut), .sc (.bool x4.want), .sc (.bool x4.can), .sc (.int .i64 x4.code), .sc (.string x4.q.name), .sc (.int .i64 x4.q.ty), .ref (20, 9) 0 x4.an.length, .ref (20, 10) 0 x4.au.length, .ref (20, 11) 0 x4.ad.length]) rfl rfl cl129 (ws_ReplyTo p2 5 false ([] : List Rec) ([] : List Rec) ([] : List Rec) x4 q5) rfl (.cons (relAgg rfl) (.cons (.free rfl) (.cons (.free rfl) (.cons (lendL rfl (.head _) rfl recV_free recV_len) (.cons (lendL rfl (.tail _ (.head _)) rfl recV_free recV_len) (.cons (lendL rfl (.tail _ (.tail _ (.head _))) rfl recV_free recV_len) .nil)))))) trivial memNil .nil (fun _ _ => List.not_mem_nil) rfl ⟨(allSc_map recV_sc), ⟨(allSc_map recV_sc), ⟨(allSc_map recV_sc), trivial⟩⟩⟩ memNil rfl (by simp only [V.mat, V.mat1, V.mat0, matL, matT, List.length_map] <;> rfl) rfl rfl rfl rfl ?_
  refine s_storeB rfl rfl rfl ty50 rfl rfl rfl rfl rfl ?_
  refine rt_nil ?_
  refine tri_ret ?_
  have e0 := (some1 h); subst e0
  exact endY (v' := .agg [.sc (.int .i64 x4.id), .sc (.bool x4.reply), .sc (.bool x4.auth), .sc (.bool x4.cut), .sc (.bool x4.want), .sc (.bool x4.can), .sc (.int .i64 x4.code), .sc (.string x4.q.name), .sc (.int .i64 x4.q.ty), .ref (2000, 9) 0 x4.an.length, .ref (2000, 10) 0 x4.au.length, .ref (2000, 11) 0 x4.ad.length]) [((2000, 9), ⟨39, 6, List.map recV x4.an, false, true⟩, some (20, 9)), ((2000, 10), ⟨39, 6, List.map recV x4.au, false, true⟩, some (20, 10)), ((2000, 11), ⟨39, 6, List.map recV x4.ad, false, true⟩, some (20, 11))] [] (rvC (resCell rfl rfl ty50) rvN) ⟨⟨rfl, _, rfl, rfl, rfl, rfl, id, rowsCv_eq rfl (allFree_map recV_free), rowsZ_map recV_len⟩, ⟨rfl, _, rfl, rfl, rfl, rfl, id, rowsCv_eq rfl (allFree_map recV_free), rowsZ_map recV_len⟩, ⟨rfl, _, rfl, rfl, rfl, rfl, id, rowsCv_eq rfl (allFree_map recV_free), rowsZ_map recV_len⟩, trivial⟩ trivial rfl rfl (by kernel_rfl) (by simp only [V.mat, V.mat1, V.mat0, matL, matT, List.length_map] <;> rfl) (CvL.agg (.cons (.free rfl) (.cons (.free rfl) (.cons (.free rfl) (.cons (.free rfl) (.cons (.free rfl) (.cons (.free rfl) (.cons (.free rfl) (.cons (.free rfl) (.cons (.free rfl) (.cons (.ref rfl) (.cons (.ref rfl) (.cons (.ref rfl) .nil)))))))))))))
 ·replace h := cond_f h c3
  refine tri_skip ?_
  refine tri_seq ?_
  refine tri_draw mixed ?_
  refine s_fieldAddr rfl rfl fd45_0 rfl rfl rfl rfl ?_
  refine s_load rfl rfl rfl rfl ty42 rfl (.inr rfl) (by conv => lhs; whnf) rfl rfl rfl ?_
  refine m1 ?_
  refine bnd1_elim h fun x6 q7 h => ?_
  have q7a := (idx_some q7).1; have q7b := (idx_some q7).2
  refine s_indexFZ rfl rfl rfl sl42 q7a (get_ltM q7b) rfl rfl rfl ?_
  refine s_loadFR rfl rfl (rowG q7b) ty26 rfl rfl rfl ?_
  refine s_loadR rfl rfl rfl rfl ty50 rfl rfl rfl ?_
  refine bnd1_elim h fun x8 q9 h => ?_
  refine s_callN (kb := []) (ns := []) (v := .agg [.sc (.int .i64 x8.id), .sc (.bool x8.reply), .sc (.bool x8.auth), .sc (.bool x8.cut), .sc (.bool x8.want), .sc (.bool x8.can), .sc (.int .i64 x8.code), .sc (.string x8.q.name), .sc (.int .i64 x8.q.ty), .ref (27, 9) 0 x8.an.length, .ref (27, 10) 0 x8.au.length, .ref (27, 11) 0 x8.ad.length]) rfl rfl cl51 (ws_Serve x6 p2 x8 q9) rfl (.cons (relAgg rfl) (.cons (relAgg rfl) .nil)) trivial memNil .nil memNil rfl ⟨(allSc_map recV_sc), ⟨(allSc_map recV_sc), ⟨(allSc_map recV_sc), trivial⟩⟩⟩ memNil rfl (by simp only [V.mat, V.mat1, V.mat0, matL, matT, List.length_map] <;> rfl) rfl rfl rfl rfl ?_
  refine s_storeB rfl rfl rfl ty50 rfl rfl rfl rfl rfl ?_
  refine rt_nil ⟨by kernel_rfl, ?_⟩
  refine tri_ret ?_
  have e0 := (some1 h); subst e0
  exact endY (v' := .agg [.sc (.int .i64 x8.id), .sc (.bool x8.reply), .sc (.bool x8.auth), .sc (.bool x8.cut), .sc (.bool x8.want), .sc (.bool x8.can), .sc (.int .i64 x8.code), .sc (.string x8.q.name), .sc (.int .i64 x8.q.ty), .ref (2000, 9) 0 x8.an.length, .ref (2000, 10) 0 x8.au.length, .ref (2000, 11) 0 x8.ad.length]) [((2000, 9), ⟨39, 6, List.map recV x8.an, false, true⟩, some (27, 9)), ((2000, 10), ⟨39, 6, List.map recV x8.au, false, true⟩, some (27, 10)), ((2000, 11), ⟨39, 6, List.map recV x8.ad, false, true⟩, some (27, 11))] [] (rvC (resCell rfl rfl ty50) rvN) ⟨⟨rfl, _, rfl, rfl, rfl, rfl, id, rowsCv_eq rfl (allFree_map recV_free), rowsZ_map recV_len⟩, ⟨rfl, _, rfl, rfl, rfl, rfl, id, rowsCv_eq rfl (allFree_map recV_free), rowsZ_map recV_len⟩, ⟨rfl, _, rfl, rfl, rfl, rfl, id, rowsCv_eq rfl (allFree_map recV_free), rowsZ_map recV_len⟩, trivial⟩ trivial rfl rfl (by kernel_rfl) (by simp only [V.mat, V.mat1, V.mat0, matL, matT, List.length_map] <;> rfl) (CvL.agg (.cons (.free rfl) (.cons (.free rfl) (.cons (.free rfl) (.cons (.free rfl) (.cons (.free rfl) (.cons (.free rfl) (.cons (.free rfl) (.cons (.free rfl) (.cons (.free rfl) (.cons (.ref rfl) (.cons (.ref rfl) (.cons (.ref rfl) .nil)))))))))))))

/- spec.l3Name -/

set_option maxRecDepth 4000 in
set_option maxHeartbeats 800000 in
theorem ws_l3Name (p0 : Cur) (r0 : ByteArray) (r1 : Cur) (h : s_l3Name p0 = some (r0, r1)) : Runs Tryd.prog 193 [.ptr (1000, 0) 0 0] [⟨136, 3, [[.lst 1 (List.map byteV p0.b), .sc (.int .i64 p0.i), .sc (.int .i64 p0.h)]], false, false⟩] (.sc (.string r0)) [⟨136, 3, [[.lst 1 (List.map byteV r1.b), .sc (.int .i64 r1.i), .sc (.int .i64 r1.h)]], false, false⟩] := by
 unfold s_l3Name at h
 refine runsR [.tmp 2] Tryd.func193 rfl rfl rfl rfl ?_
 rw [Tryd.ntmps193]
 refine tri_sr ?_
 refine s_mv (.inr rfl) (v := .sc (.string (⟨#[]⟩ : ByteArray))) rfl rfl rfl rfl ?_
 refine rt_nil ?_
 refine tri_sr ?_
 refine m1 ?_
 refine s_buildSlice (rows' := List.map strV [(⟨#[]⟩ : ByteArray), (⟨#[99, 111, 109]⟩ : ByteArray), (⟨#[101, 120, 46, 99, 111, 109]⟩ : ByteArray), (⟨#[119, 119, 119, 46, 101, 120, 46, 99, 111, 109]⟩ : ByteArray), (⟨#[110, 115, 46, 101, 120, 46, 99, 111, 109]⟩ : ByteArray), (⟨#[111, 114, 103]⟩ : ByteArray), (⟨#[97, 46, 111, 114, 103]⟩ : ByteArray), (⟨#[98, 46, 97, 46, 111, 114, 103]⟩ : ByteArray), (⟨#[110, 115, 49, 46, 111, 114, 103]⟩ : ByteArray), (⟨#[120, 46, 121, 46, 122, 46, 101, 120, 46, 99, 111, 109]⟩ : ByteArray)]) rfl rfl rfl sl33 zc9 rfl rfl rfl rfl rfl rfl rfl rfl rfl ?_
 refine bnd2_elim h fun x1 x2 q3 h => ?_
 refine s_callZ (kb := [(4, 0)]) (ns := [(1000, 0)]) (v := .sc (.string x1)) rfl rfl cl118 (ws_l1Str p0 ([(⟨#[]⟩ : ByteArray), (⟨#[99, 111, 109]⟩ : ByteArray), (⟨#[101, 120, 46, 99, 111, 109]⟩ : ByteArray), (⟨#[119, 119, 119, 46, 101, 120, 46, 99, 111, 109]⟩ : ByteArray), (⟨#[110, 115, 46, 101, 120, 46, 99, 111, 109]⟩ : ByteArray), (⟨#[111, 114, 103]⟩ : ByteArray), (⟨#[97, 46, 111, 114, 103]⟩ : ByteArray), (⟨#[98, 46, 97, 46, 111, 114, 103]⟩ : ByteArray), (⟨#[110, 115, 49, 46, 111, 114, 103]⟩ : ByteArray), (⟨#[120, 46, 121, 46, 122, 46, 101, 120, 46, 99, 111, 109]⟩ : ByteArray)]) x1 x2 q3) rfl (.cons (.ptrOwn rfl) (.cons (lendL rfl (.head _) rfl strV_free strV_len) .nil)) ⟨⟨_, rfl, rfl⟩, trivial⟩ (memCons (allFree_one rfl) memNil) (List.nodup_cons.2 ⟨List.not_mem_nil, .nil⟩) (by decide) ⟨⟨_, rfl, rfl⟩, trivial⟩ rfl trivial (memCons (allFree_one rfl) memNil) rfl rfl rfl rfl rfl rfl ?_
 refine m2 ?_
 refine rt_nil ?_
 refine tri_ret ?_
 have e0 := (some2 h).1; have e1 := (some2 h).2; subst e0; subst e1
 exact endY [((1000, 0), ⟨136, 3, [[.lst 1 (List.map byteV x2.b), .sc (.int .i64 x2.i), .sc (.int .i64 x2.h)]], false, false⟩, some (1000, 0))] [] (rvC (resTmp rfl) rvN) ⟨⟨rfl, _, rfl, rfl, rfl, rfl, id, rowsCv_one (.cons (.free rfl) (.cons (.free rfl) (.cons (.free rfl) .nil))), rowsZ_one rfl⟩, trivial⟩ trivial rfl rfl (by kernel_rfl) rfl (.free rfl)

/- spec.l5Type -/

set_option maxRecDepth 4000 in
set_option maxHeartbeats 800000 in
theorem ws_l5Type (p0 : Cur) (r0 : Int) (r1 : Cur) (h : s_l5Type p0 = some (r0, r1)) : Runs Tryd.prog 91 [.ptr (1000, 0) 0 0] [⟨136, 3, [[.lst 1 (List.map byteV p0.b), .sc (.int .i64 p0.i), .sc (.int .i64 p0.h)]], false, false⟩] (.sc (.int .i64 r0)) [⟨136, 3, [[.lst 1 (List.map byteV r1.b), .sc (.int .i64 r1.i), .sc (.int .i64 r1.h)]], false, false⟩] := by
 unfold s_l5Type at h
 refine runsR [.tmp 2] Tryd.func91 rfl rfl rfl rfl ?_
 rw [Tryd.ntmps91]
 refine tri_sr ?_
 refine s_mv (.inr rfl) (v := .sc (.int .i64 0)) rfl rfl rfl rfl ?_
 refine rt_nil ?_
 refine tri_sr ?_
 refine m1 ?_
 refine s_buildSlice (rows' := List.map intV [1, 1, 1, 2, 2, 5, 6, 16]) rfl rfl rfl sl76 zc3 rfl rfl rfl rfl rfl rfl rfl rfl rfl ?_
 refine bnd2_elim h fun x1 x2 q3 h => ?_
 refine s_callZ (kb := [(4, 0)]) (ns := [(1000, 0)]) (v := .sc (.int .i64 x1)) rfl rfl cl140 (ws_l1Int p0 [1, 1, 1, 2, 2, 5, 6, 16] x1 x2 q3) rfl (.cons (.ptrOwn rfl) (.cons (lendL rfl (.head _) rfl intV_free intV_len) .nil)) ⟨⟨_, rfl, rfl⟩, trivial⟩ (memCons (allFree_one rfl) memNil) (List.nodup_cons.2 ⟨List.not_mem_nil, .nil⟩) (by decide) ⟨⟨_, rfl, rfl⟩, trivial⟩ rfl trivial (memCons (allFree_one rfl) memNil) rfl rfl rfl rfl rfl rfl ?_
 refine m2 ?_
 refine rt_nil ?_
 refine tri_ret ?_
 have e0 := (some2 h).1; have e1 := (some2 h).2; subst e0; subst e1
 exact endY [((1000, 0), ⟨136, 3, [[.lst 1 (List.map byteV x2.b), .sc (.int .i64 x2.i), .sc (.int .i64 x2.h)]], false, false⟩, some (1000, 0))] [] (rvC (resTmp rfl) rvN) ⟨⟨rfl, _, rfl, rfl, rfl, rfl, id, rowsCv_one (.cons (.free rfl) (.cons (.free rfl) (.cons (.free rfl) .nil))), rowsZ_one rfl⟩, trivial⟩ trivial rfl rfl (by kernel_rfl) rfl (.free rfl)

/- spec.l5Draw -/
def inv_s_l5Draw_0 (x1 : ByteArray) (x4 : Int) (x7 : Int) (x8 : Cur) (j0_0 : Bool) : St := mkT 42 [(0, .ptr (1000, 0) 0 0), (2, .ptr (2, 0) 0 0), (3, .ptr (3, 0) 0 0), (13, .sc (.int .i64 x4)), (20, .sc (.bool j0_0))] [((1000, 0), some ⟨136, 3, [[.lst 1 (List.map byteV x8.b), .sc (.int .i64 x8.i), .sc (.int .i64 x8.h)]], false, false⟩), ((2, 0), some ⟨39, 6, [[.sc (.string (⟨#[]⟩ : ByteArray)), .sc (.int .i64 0), .sc (.int .i64 0), .sc (.int .i64 0), .sc (.string (⟨#[]⟩ : ByteArray)), .sc (.string (⟨#[]⟩ : ByteArray))]], false, true⟩), ((3, 0), some ⟨39, 6, [[.sc (.string x1), .sc (.int .i64 x4), .sc (.int .i64 x7), .sc (.int .i64 0), .sc (.string (⟨#[]⟩ : ByteArray)), .sc (.string (⟨#[]⟩ : ByteArray))]], false, true⟩)]
set_option maxRecDepth 4000 in
set_option maxHeartbeats 800000 in
theorem ws_l5Draw (p0 : Cur) (r0 : Rec) (r1 : Cur) (h : s_l5Draw p0 = some (r0, r1)) : Runs Tryd.prog 164 [.ptr (1000, 0) 0 0] [⟨136, 3, [[.lst 1 (List.map byteV p0.b), .sc (.int .i64 p0.i), .sc (.int .i64 p0.h)]], false, false⟩] (.agg (recV r0)) [⟨136, 3, [[.lst 1 (List.map byteV r1.b), .sc (.int .i64 r1.i), .sc (.int .i64 r1.h)]], false, false⟩] := by
 unfold s_l5Draw at h
 refine runsR [.cell 2 39] Tryd.func164 rfl rfl rfl rfl ?_
 rw [Tryd.ntmps164]
 refine tri_sr ?_
 refine s_alloc rfl rfl rfl zc39 rfl rfl rfl rfl rfl ?_
 refine rt_nil ?_
 refine tri_sr ?_
 refine m1 ?_
 refine bnd2_elim h fun x1 x2 q3 h => ?_
 refine s_callZ (kb := []) (ns := [(1000, 0)]) (v := .sc (.string x1)) rfl rfl cl193 (ws_l3Name p0 x1 x2 q3) rfl (.cons (.ptrOwn rfl) .nil) ⟨⟨_, rfl, rfl⟩, trivial⟩ (memCons (allFree_one rfl) memNil) (List.nodup_cons.2 ⟨List.not_mem_nil, .nil⟩) memNil trivial rfl trivial (memCons (allFree_one rfl) memNil) rfl rfl rfl rfl rfl rfl ?_
 refine m1 ?_
 refine bnd2_elim h fun x4 x5 q6 h => ?_
 refine s_callZ (kb := []) (ns := [(1000, 0)]) (v := .sc (.int .i64 x4)) rfl rfl cl91 (ws_l5Type x2 x4 x5 q6) rfl (.cons (.ptrOwn rfl) .nil) ⟨⟨_, rfl, rfl⟩, trivial⟩ (memCons (allFree_one rfl) memNil) (List.nodup_cons.2 ⟨List.not_mem_nil, .nil⟩) memNil trivial rfl trivial (memCons (allFree_one rfl) memNil) rfl rfl rfl rfl rfl rfl ?_
 refine m1 ?_
 refine s_buildSlice (rows' := List.map intV [0, 1, 5, 60, 300, 100000]) rfl rfl rfl sl76 zc3 rfl rfl rfl rfl rfl rfl rfl rfl rfl ?_
 refine bnd2_elim h fun x7 x8 q9 h => ?_
 refine s_callZ (kb := [(9, 0)]) (ns := [(1000, 0)]) (v := .sc (.int .i64 x7)) rfl rfl cl140 (ws_l1Int x5 [0, 1, 5, 60, 300, 100000] x7 x8 q9) rfl (.cons (.ptrOwn rfl) (.cons (lendL rfl (.head _) rfl intV_free intV_len) .nil)) ⟨⟨_, rfl, rfl⟩, trivial⟩ (memCons (allFree_one rfl) memNil) (List.nodup_cons.2 ⟨List.not_mem_nil, .nil⟩) (by decide) ⟨⟨_, rfl, rfl⟩, trivial⟩ rfl trivial (memCons (allFree_one rfl) memNil) rfl rfl rfl rfl rfl rfl ?_
 refine s_build (cells' := [.sc (.string x1), .sc (.int .i64 x4), .sc (.int .i64 x7), .sc (.int .i64 0), .sc (.string (⟨#[]⟩ : ByteArray)), .sc (.string (⟨#[]⟩ : ByteArray))]) rfl stc39 rfl rfl rfl rfl rfl rfl rfl ?_
 refine s_alloc rfl rfl rfl zc39 rfl rfl rfl rfl rfl ?_
 refine s_storeB rfl rfl rfl ty39 rfl rfl rfl rfl rfl ?_
 refine rt_nil ?_
 refine tri_seq ?_
 refine tri_sr ?_
 refine s_fieldAddr rfl rfl fd39_1 rfl rfl rfl rfl ?_
 refine s_load rfl rfl rfl rfl ty3 rfl (.inr rfl) (by conv => lhs; whnf) rfl rfl rfl ?_
 refine rt_nil ?_
 refine tri_block ?_
 refine tri_sr ?_
 refine s_of (st_eqI rfl rfl rfl) rfl rfl rfl rfl ?_
 refine m2 ?_
 refine rt_nil ?_
 refine tri_cond rfl (fun c10 => ?_) (fun c10 => ?_)
 ·replace h := cond_t h c10
  refine tri_region ?_
  refine m1 ?_
  refine bnd2_elim h fun x11 x12 q13 h => ?_
  refine s_callZ (kb := []) (ns := [(1000, 0)]) (v := .sc (.int .i64 x11)) rfl rfl cl116 (ws_l1Below x8 9 x11 x12 q13) rfl (.cons (.ptrOwn rfl) (.cons (.free rfl) .nil)) ⟨⟨_, rfl, rfl⟩, trivial⟩ (memCons (allFree_one rfl) memNil) (List.nodup_cons.2 ⟨List.not_mem_nil, .nil⟩) memNil trivial rfl trivial (memCons (allFree_one rfl) memNil) rfl rfl rfl rfl rfl rfl ?_
  refine grd_elim h fun g14 h => ?_
  refine s_addI rfl rfl rfl rfl g14 rfl rfl rfl ?_
  refine s_fieldAddr rfl rfl fd39_3 rfl rfl rfl rfl ?_
  refine s_store (rows' := [[.sc (.string x1), .sc (.int .i64 x4), .sc (.int .i64 x7), .sc (.int .i64 (1 + x11)), .sc (.string (⟨#[]⟩ : ByteArray)), .sc (.string (⟨#[]⟩ : ByteArray))]]) rfl rfl rfl rfl ty3 rfl rfl rfl rfl rfl rfl ?_
  refine rt_nil ?_
  refine tri_sr ?_
  refine s_loadR rfl rfl rfl rfl ty39 rfl rfl rfl ?_
  refine s_storeB rfl rfl rfl ty39 rfl rfl rfl rfl rfl ?_
  refine rt_nil ?_
  refine tri_ret ?_
  have e0 := (some2 h).1; have e1 := (some2 h).2; subst e0; subst e1
  exact endY [((1000, 0), ⟨136, 3, [[.lst 1 (List.map byteV x12.b), .sc (.int .i64 x12.i), .sc (.int .i64 x12.h)]], false, false⟩, some (1000, 0))] [] (rvC (resCell rfl rfl ty39) rvN) ⟨⟨rfl, _, rfl, rfl, rfl, rfl, id, rowsCv_one (.cons (.free rfl) (.cons (.free rfl) (.cons (.free rfl) .nil))), rowsZ_one rfl⟩, trivial⟩ trivial rfl rfl (by kernel_rfl) rfl (cvAgg rfl)
 ·replace h := cond_f h c10
  refine tri_cutI (ι := { p : Bool // s_l5Draw_j0 x1 x4 x7 x8 p = some (r0, r1) }) (fun p => inv_s_l5Draw_0 x1 x4 x7 x8 p.1) ?_ ?_
  ·skip
   refine tri_sr ?_
   refine s_of (st_eqI rfl rfl rfl) rfl rfl rfl rfl ?_
   refine m2 ?_
   refine rt_nil ?_
   refine tri_cond rfl (fun c15 => ?_) (fun c15 => ?_)
   ·replace h := cond_t h c15
    refine tri_skip ?_
    refine Exists.intro ⟨decide (x4 = 2), h⟩ ?_
    refine entX [((1000, 0), ⟨136, 3, [[.lst 1 (List.map byteV x8.b), .sc (.int .i64 x8.i), .sc (.int .i64 x8.h)]], false, false⟩, some (1000, 0)), ((2, 0), ⟨39, 6, [[.sc (.string (⟨#[]⟩ : ByteArray)), .sc (.int .i64 0), .sc (.int .i64 0), .sc (.int .i64 0), .sc (.string (⟨#[]⟩ : ByteArray)), .sc (.string (⟨#[]⟩ : ByteArray))]], false, true⟩, some (2, 0)), ((3, 0), ⟨39, 6, [[.sc (.string x1), .sc (.int .i64 x4), .sc (.int .i64 x7), .sc (.int .i64 0), .sc (.string (⟨#[]⟩ : ByteArray)), .sc (.string (⟨#[]⟩ : ByteArray))]], false, true⟩, some (3, 0))] [] ⟨⟨rfl, _, rfl, rfl, rfl, rfl, id, rowsCv_one (.cons (.free rfl) (.cons (.free rfl) (.cons (.free rfl) .nil))), rowsZ_one rfl⟩, ⟨rfl, _, rfl, rfl, rfl, rfl, id, rowsCv_one (.cons (.free rfl) (.cons (.free rfl) (.cons (.free rfl) (.cons (.free rfl) (.cons (.free rfl) (.cons (.free rfl) .nil)))))), rowsZ_one rfl⟩, ⟨rfl, _, rfl, rfl, rfl, rfl, id, rowsCv_one (.cons (.free rfl) (.cons (.free rfl) (.cons (.free rfl) (.cons (.free rfl) (.cons (.free rfl) (.cons (.free rfl) .nil)))))), rowsZ_one rfl⟩, trivial⟩ trivial rfl rfl ?_
    exact ⟨(.ptr rfl), (.ptr rfl), (.ptr rfl), (.free rfl), (.free rfl), trivial⟩
   ·replace h := cond_f h c15
    refine tri_region ?_
    refine s_of (st_eqI rfl rfl rfl) rfl rfl rfl rfl ?_
    refine m2 ?_
    refine rt_nil ?_
    refine Exists.intro ⟨decide (x4 = 5), h⟩ ?_
    refine entX [((1000, 0), ⟨136, 3, [[.lst 1 (List.map byteV x8.b), .sc (.int .i64 x8.i), .sc (.int .i64 x8.h)]], false, false⟩, some (1000, 0)), ((2, 0), ⟨39, 6, [[.sc (.string (⟨#[]⟩ : ByteArray)), .sc (.int .i64 0), .sc (.int .i64 0), .sc (.int .i64 0), .sc (.string (⟨#[]⟩ : ByteArray)), .sc (.string (⟨#[]⟩ : ByteArray))]], false, true⟩, some (2, 0)), ((3, 0), ⟨39, 6, [[.sc (.string x1), .sc (.int .i64 x4), .sc (.int .i64 x7), .sc (.int .i64 0), .sc (.string (⟨#[]⟩ : ByteArray)), .sc (.string (⟨#[]⟩ : ByteArray))]], false, true⟩, some (3, 0))] [] ⟨⟨rfl, _, rfl, rfl, rfl, rfl, id, rowsCv_one (.cons (.free rfl) (.cons (.free rfl) (.cons (.free rfl) .nil))), rowsZ_one rfl⟩, ⟨rfl, _, rfl, rfl, rfl, rfl, id, rowsCv_one (.cons (.free rfl) (.cons (.free rfl) (.cons (.free rfl) (.cons (.free rfl) (.cons (.free rfl) (.cons (.free rfl) .nil)))))), rowsZ_one rfl⟩, ⟨rfl, _, rfl, rfl, rfl, rfl, id, rowsCv_one (.cons (.free rfl) (.cons (.free rfl) (.cons (.free rfl) (.cons (.free rfl) (.cons (.free rfl) (.cons (.free rfl) .nil)))))), rowsZ_one rfl⟩, trivial⟩ trivial rfl rfl ?_
    exact ⟨(.ptr rfl), (.ptr rfl), (.ptr rfl), (.free rfl), (.free rfl), trivial⟩
  ·rintro ⟨j0_0, h⟩
   replace h : s_l5Draw_j0 x1 x4 x7 x8 j0_0 = some (r0, r1) := h
   unfold s_l5Draw_j0 at h
   show Tri _ _ _ (inv_s_l5Draw_0 x1 x4 x7 x8 j0_0)
   refine tri_cond rfl (fun c15 => ?_) (fun c15 => ?_)
   ·replace h := cond_t h c15
    refine tri_region ?_
    refine m1 ?_
    refine bnd2_elim h fun x16 x17 q18 h => ?_
    refine s_callZ (kb := []) (ns := [(1000, 0)]) (v := .sc (.string x16)) rfl rfl cl193 (ws_l3Name x8 x16 x17 q18) rfl (.cons (.ptrOwn rfl) .nil) ⟨⟨_, rfl, rfl⟩, trivial⟩ (memCons (allFree_one rfl) memNil) (List.nodup_cons.2 ⟨List.not_mem_nil, .nil⟩) memNil trivial rfl trivial (memCons (allFree_one rfl) memNil) rfl rfl rfl rfl rfl rfl ?_
    refine s_fieldAddr rfl rfl fd39_4 rfl rfl rfl rfl ?_
    refine s_store (rows' := [[.sc (.string x1), .sc (.int .i64 x4), .sc (.int .i64 x7), .sc (.int .i64 0), .sc (.string x16), .sc (.string (⟨#[]⟩ : ByteArray))]]) rfl rfl rfl rfl ty9 rfl rfl rfl rfl rfl rfl ?_
    refine rt_nil ?_
    refine tri_sr ?_
    refine s_loadR rfl rfl rfl rfl ty39 rfl rfl rfl ?_
    refine s_storeB rfl rfl rfl ty39 rfl rfl rfl rfl rfl ?_
    refine rt_nil ?_
    refine tri_ret ?_
    have e0 := (some2 h).1; have e1 := (some2 h).2; subst e0; subst e1
    exact endY [((1000, 0), ⟨136, 3, [[.lst 1 (List.map byteV x17.b), .sc (.int .i64 x17.i), .sc (.int .i64 x17.h)]], false, false⟩, some (1000, 0))] [] (rvC (resCell rfl rfl ty39) rvN) ⟨⟨rfl, _, rfl, rfl, rfl, rfl, id, rowsCv_one (.cons (.free rfl) (.cons (.free rfl) (.cons (.free rfl) .nil))), rowsZ_one rfl⟩, trivial⟩ trivial rfl rfl (by kernel_rfl) rfl (cvAgg rfl)
   ·replace h := cond_f h c15
    refine tri_sr ?_
    refine s_of (st_eqI rfl rfl rfl) rfl rfl rfl rfl ?_
    refine m2 ?_
    refine rt_nil ?_
    refine tri_cond rfl (fun c19 => ?_) (fun c19 => ?_)
    ·replace h := cond_t h c19
     refine tri_sr ?_
     refine m1 ?_
     refine bnd2_elim h fun x20 x21 q22 h => ?_
     refine s_callZ (kb := []) (ns := [(1000, 0)]) (v := .sc (.string x20)) rfl rfl cl193 (ws_l3Name x8 x20 x21 q22) rfl (.cons (.ptrOwn rfl) .nil) ⟨⟨_, rfl, rfl⟩, trivial⟩ (memCons (allFree_one rfl) memNil) (List.nodup_cons.2 ⟨List.not_mem_nil, .nil⟩) memNil trivial rfl trivial (memCons (allFree_one rfl) memNil) rfl rfl rfl rfl rfl rfl ?_
     refine s_fieldAddr rfl rfl fd39_4 rfl rfl rfl rfl ?_
     refine s_store (rows' := [[.sc (.string x1), .sc (.int .i64 x4), .sc (.int .i64 x7), .sc (.int .i64 0), .sc (.string x20), .sc (.string (⟨#[]⟩ : ByteArray))]]) rfl rfl rfl rfl ty9 rfl rfl rfl rfl rfl rfl ?_
     refine rt_nil ?_
     refine tri_region ?_
     refine m1 ?_
     refine s_buildSlice (rows' := List.map intV [0, 5, 60]) rfl rfl rfl sl76 zc3 rfl rfl rfl rfl rfl rfl rfl rfl rfl ?_
     refine bnd2_elim h fun x23 x24 q25 h => ?_
     refine s_callZ (kb := [(32, 0)]) (ns := [(1000, 0)]) (v := .sc (.int .i64 x23)) rfl rfl cl140 (ws_l1Int x21 [0, 5, 60] x23 x24 q25) rfl (.cons (.ptrOwn rfl) (.cons (lendL rfl (.head _) rfl intV_free intV_len) .nil)) ⟨⟨_, rfl, rfl⟩, trivial⟩ (memCons (allFree_one rfl) memNil) (List.nodup_cons.2 ⟨List.not_mem_nil, .nil⟩) (by decide) ⟨⟨_, rfl, rfl⟩, trivial⟩ rfl trivial (memCons (allFree_one rfl) memNil) rfl rfl rfl rfl rfl rfl ?_
     refine s_fieldAddr rfl rfl fd39_3 rfl rfl rfl rfl ?_
     refine s_store (rows' := [[.sc (.string x1), .sc (.int .i64 x4), .sc (.int .i64 x7), .sc (.int .i64 x23), .sc (.string x20), .sc (.string (⟨#[]⟩ : ByteArray))]]) rfl rfl rfl rfl ty3 rfl rfl rfl rfl rfl rfl ?_
     refine rt_nil ?_
     refine tri_sr ?_
     refine s_loadR rfl rfl rfl rfl ty39 rfl rfl rfl ?_
     refine s_storeB rfl rfl rfl ty39 rfl rfl rfl rfl rfl ?_
     refine rt_nil ?_
     refine tri_ret ?_
     have e0 := (some2 h).1; have e1 := (some2 h).2; subst e0; subst e1
     exact endY [((1000, 0), ⟨136, 3, [[.lst 1 (List.map byteV x24.b), .sc (.int .i64 x24.i), .sc (.int .i64 x24.h)]], false, false⟩, some (1000, 0))] [] (rvC (resCell rfl rfl ty39) rvN) ⟨⟨rfl, _, rfl, rfl, rfl, rfl, id, rowsCv_one (.cons (.free rfl) (.cons (.free rfl) (.cons (.free rfl) .nil))), rowsZ_one rfl⟩, trivial⟩ trivial rfl rfl (by kernel_rfl) rfl (cvAgg rfl)
    ·replace h := cond_f h c19
     refine tri_sr ?_
     refine s_of (st_eqI rfl rfl rfl) rfl rfl rfl rfl ?_
     refine m2 ?_
     refine rt_nil ?_
     refine tri_cond rfl (fun c26 => ?_) (fun c26 => ?_)
     ·replace h := cond_t h c26
      refine tri_region ?_
      refine m1 ?_
      refine s_buildSlice (rows' := List.map strV [(⟨#[]⟩ : ByteArray), (⟨#[104, 105]⟩ : ByteArray), (⟨#[116, 119, 101, 108, 118, 101, 98, 121, 116, 101, 115, 33]⟩ : ByteArray)]) rfl rfl rfl sl33 zc9 rfl rfl rfl rfl rfl rfl rfl rfl rfl ?_
      refine bnd2_elim h fun x27 x28 q29 h => ?_
      refine s_callZ (kb := [(38, 0)]) (ns := [(1000, 0)]) (v := .sc (.string x27)) rfl rfl cl118 (ws_l1Str x8 ([(⟨#[]⟩ : ByteArray), (⟨#[104, 105]⟩ : ByteArray), (⟨#[116, 119, 101, 108, 118, 101, 98, 121, 116, 101, 115, 33]⟩ : ByteArray)]) x27 x28 q29) rfl (.cons (.ptrOwn rfl) (.cons (lendL rfl (.head _) rfl strV_free strV_len) .nil)) ⟨⟨_, rfl, rfl⟩, trivial⟩ (memCons (allFree_one rfl) memNil) (List.nodup_cons.2 ⟨List.not_mem_nil, .nil⟩) (by decide) ⟨⟨_, rfl, rfl⟩, trivial⟩ rfl trivial (memCons (allFree_one rfl) memNil) rfl rfl rfl rfl rfl rfl ?_
      refine s_fieldAddr rfl rfl fd39_5 rfl rfl rfl rfl ?_
      refine s_store (rows' := [[.sc (.string x1), .sc (.int .i64 x4), .sc (.int .i64 x7), .sc (.int .i64 0), .sc (.string (⟨#[]⟩ : ByteArray)), .sc (.string x27)]]) rfl rfl rfl rfl ty9 rfl rfl rfl rfl rfl rfl ?_
      refine rt_nil ?_
      refine tri_sr ?_
      refine s_loadR rfl rfl rfl rfl ty39 rfl rfl rfl ?_
      refine s_storeB rfl rfl rfl ty39 rfl rfl rfl rfl rfl ?_
      refine rt_nil ?_
      refine tri_ret ?_
      have e0 := (some2 h).1; have e1 := (some2 h).2; subst e0; subst e1
      exact endY [((1000, 0), ⟨136, 3, [[.lst 1 (List.map byteV x28.b), .sc (.int .i64 x28.i), .sc (.int .i64 x28.h)]], false, false⟩, some (1000, 0))] [] (rvC (resCell rfl rfl ty39) rvN) ⟨⟨rfl, _, rfl, rfl, rfl, rfl, id, rowsCv_one (.cons (.free rfl) (.cons (.free rfl) (.cons (.free rfl) .nil))), rowsZ_one rfl⟩, trivial⟩ trivial rfl rfl (by kernel_rfl) rfl (cvAgg rfl)
     ·replace h := cond_f h c26
      refine tri_skip ?_
      refine tri_sr ?_
      refine s_loadR rfl rfl rfl rfl ty39 rfl rfl rfl ?_
      refine s_storeB rfl rfl rfl ty39 rfl rfl rfl rfl rfl ?_
      refine rt_nil ?_
      refine tri_ret ?_
      have e0 := (some2 h).1; have e1 := (some2 h).2; subst e0; subst e1
      exact endY [((1000, 0), ⟨136, 3, [[.lst 1 (List.map byteV x8.b), .sc (.int .i64 x8.i), .sc (.int .i64 x8.h)]], false, false⟩, some (1000, 0))] [] (rvC (resCell rfl rfl ty39) rvN) ⟨⟨rfl, _, rfl, rfl, rfl, rfl, id, rowsCv_one (.cons (.free rfl) (.cons (.free rfl) (.cons (.free rfl) .nil))), rowsZ_one rfl⟩, trivial⟩ trivial rfl rfl (by kernel_rfl) rfl (cvAgg rfl)

/- spec.l7Quest -/

set_option maxRecDepth 4000 in
set_option maxHeartbeats 800000 in
theorem ws_l7Quest (p0 : Cur) (r0 : Quest) (r1 : Cur) (h : s_l7Quest p0 = some (r0, r1)) : Runs Tryd.prog 217 [.ptr (1000, 0) 0 0] [⟨136, 3, [[.lst 1 (List.map byteV p0.b), .sc (.int .i64 p0.i), .sc (.int .i64 p0.h)]], false, false⟩] (.agg (questV r0)) [⟨136, 3, [[.lst 1 (List.map byteV r1.b), .sc (.int .i64 r1.i), .sc (.int .i64 r1.h)]], false, false⟩] := by
 unfold s_l7Quest at h
 refine runsR [.cell 2 28] Tryd.func217 rfl rfl rfl rfl ?_
 rw [Tryd.ntmps217]
 refine tri_sr ?_
 refine s_alloc rfl rfl rfl zc28 rfl rfl rfl rfl rfl ?_
 refine rt_nil ?_
 refine tri_sr ?_
 refine m1 ?_
 refine bnd2_elim h fun x1 x2 q3 h => ?_
 refine s_callZ (kb := []) (ns := [(1000, 0)]) (v := .sc (.string x1)) rfl rfl cl193 (ws_l3Name p0 x1 x2 q3) rfl (.cons (.ptrOwn rfl) .nil) ⟨⟨_, rfl, rfl⟩, trivial⟩ (memCons (allFree_one rfl) memNil) (List.nodup_cons.2 ⟨List.not_mem_nil, .nil⟩) memNil trivial rfl trivial (memCons (allFree_one rfl) memNil) rfl rfl rfl rfl rfl rfl ?_
 refine m1 ?_
 refine bnd2_elim h fun x4 x5 q6 h => ?_
 refine s_callZ (kb := []) (ns := [(1000, 0)]) (v := .sc (.int .i64 x4)) rfl rfl cl91 (ws_l5Type x2 x4 x5 q6) rfl (.cons (.ptrOwn rfl) .nil) ⟨⟨_, rfl, rfl⟩, trivial⟩ (memCons (allFree_one rfl) memNil) (List.nodup_cons.2 ⟨List.not_mem_nil, .nil⟩) memNil trivial rfl trivial (memCons (allFree_one rfl) memNil) rfl rfl rfl rfl rfl rfl ?_
 refine s_build (cells' := [.sc (.string x1), .sc (.int .i64 x4)]) rfl stc28 rfl rfl rfl rfl rfl rfl rfl ?_
 refine s_storeB rfl rfl rfl ty28 rfl rfl rfl rfl rfl ?_
 refine rt_nil ?_
 refine tri_ret ?_
 have e0 := (some2 h).1; have e1 := (some2 h).2; subst e0; subst e1
 exact endY [((1000, 0), ⟨136, 3, [[.lst 1 (List.map byteV x5.b), .sc (.int .i64 x5.i), .sc (.int .i64 x5.h)]], false, false⟩, some (1000, 0))] [] (rvC (resCell rfl rfl ty28) rvN) ⟨⟨rfl, _, rfl, rfl, rfl, rfl, id, rowsCv_one (.cons (.free rfl) (.cons (.free rfl) (.cons (.free rfl) .nil))), rowsZ_one rfl⟩, trivial⟩ trivial rfl rfl (by kernel_rfl) rfl (cvAgg rfl)

/- spec.l5List -/
def inv_s_l5List_0  (v0_0 : List Int) (v0_1 : Int) (v0_2 : Int) (v0_3 : List Rec) (v0_4 : Int) : St := mkT 22 [(0, .ptr (1000, 0) 0 0), (5, .ref (2005, 0) 0 v0_3.length), (6, .sc (.int .i64 v0_4))] [((1000, 0), some ⟨136, 3, [[.lst 1 (List.map byteV v0_0), .sc (.int .i64 v0_1), .sc (.int .i64 v0_2)]], false, false⟩), ((2005, 0), some ⟨39, 6, List.map recV v0_3, false, true⟩)]
set_option maxRecDepth 4000 in
set_option maxHeartbeats 800000 in
theorem ws_l5List (p0 : Cur) (p1 : Int) (r0 : List Rec) (r1 : Cur) (h : s_l5List p0 p1 = some (r0, r1)) : Runs Tryd.prog 117 [.ptr (1000, 0) 0 0, .sc (.int .i64 p1)] [⟨136, 3, [[.lst 1 (List.map byteV p0.b), .sc (.int .i64 p0.i), .sc (.int .i64 p0.h)]], false, false⟩] (.own 39 6 (List.map recV r0)) [⟨136, 3, [[.lst 1 (List.map byteV r1.b), .sc (.int .i64 r1.i), .sc (.int .i64 r1.h)]], false, false⟩] := by
 unfold s_l5List at h
 refine runsR [.tmp 4] Tryd.func117 rfl rfl rfl rfl ?_
 rw [Tryd.ntmps117]
 refine tri_sr ?_
 refine s_mv (.inr rfl) (v := .nils) rfl rfl rfl rfl ?_
 refine rt_nil ?_
 refine tri_sr ?_
 refine s_buildSlice (rows' := List.map recV ([] : List Rec)) rfl rfl rfl sl24 zc39 rfl rfl rfl rfl rfl rfl rfl rfl rfl ?_
 refine m2 ?_
 refine rt_nil ?_
 refine tri_seq ?_
 refine tri_sr ?_
 refine m1 ?_
 refine m1 ?_
 refine grd_elim h fun g1 h => ?_
 refine s_addI rfl rfl rfl rfl g1 rfl rfl rfl ?_
 refine bnd2_elim h fun x2 x3 q4 h => ?_
 refine s_callZ (kb := []) (ns := [(1000, 0)]) (v := .sc (.int .i64 x2)) rfl rfl cl116 (ws_l1Below p0 (p1 + 1) x2 x3 q4) rfl (.cons (.ptrOwn rfl) (.cons (.free rfl) .nil)) ⟨⟨_, rfl, rfl⟩, trivial⟩ (memCons (allFree_one rfl) memNil) (List.nodup_cons.2 ⟨List.not_mem_nil, .nil⟩) memNil trivial rfl trivial (memCons (allFree_one rfl) memNil) rfl rfl rfl rfl rfl rfl ?_
 refine m2 ?_
 refine rt_nil ?_
 refine tri_block ?_
 refine tri_loop (ι := { p : Nat × (List Int) × Int × Int × (List Rec) × Int // s_l5List_l0 p.1 p.2.1 p.2.2.1 p.2.2.2.1 p.2.2.2.2.1 p.2.2.2.2.2 = some (r0, r1) }) (fun p => inv_s_l5List_0 p.1.2.1 p.1.2.2.1 p.1.2.2.2.1 p.1.2.2.2.2.1 p.1.2.2.2.2.2) (fun p => p.1.1) ⟨(fuel0, x3.b, x3.i, x3.h, ([] : List Rec), x2), h⟩ ?_ ?_
 ·skip
  refine entX [((1000, 0), ⟨136, 3, [[.lst 1 (List.map byteV x3.b), .sc (.int .i64 x3.i), .sc (.int .i64 x3.h)]], false, false⟩, some (1000, 0)), ((2005, 0), ⟨39, 6, List.map recV ([] : List Rec), false, true⟩, some (7, 0))] [] ⟨⟨rfl, _, rfl, rfl, rfl, rfl, id, rowsCv_one (.cons (.free rfl) (.cons (.free rfl) (.cons (.free rfl) .nil))), rowsZ_one rfl⟩, ⟨rfl, _, rfl, rfl, rfl, rfl, id, rowsCv_eq rfl (allFree_map recV_free), rowsZ_map recV_len⟩, trivial⟩ trivial rfl rfl ?_
  exact ⟨(.ptr rfl), (.ref rfl), (.free rfl), trivial⟩
 ·rintro ⟨⟨f0, v0_0, v0_1, v0_2, v0_3, v0_4⟩, h⟩
  replace h : s_l5List_l0 f0 v0_0 v0_1 v0_2 v0_3 v0_4 = some (r0, r1) := h
  cases f0 with
  | zero => cases h
  | succ f0 =>
  rw [s_l5List_l0] at h
  show Tri _ _ _ (inv_s_l5List_0 v0_0 v0_1 v0_2 v0_3 v0_4)
  refine tri_seq ?_
  refine tri_sr ?_
  refine m1 ?_
  refine s_of (st_gtr rfl rfl rfl) rfl rfl rfl rfl ?_
  refine rt_nil ?_
  refine tri_cond rfl (fun c5 => ?_) (fun c5 => ?_)
  ·replace h := cond_t h c5
   refine tri_skip ?_
   refine tri_seq ?_
   refine tri_block ?_
   refine tri_region ?_
   refine m1 ?_
   refine m1 ?_
   refine bnd2_elim h fun x6 x7 q8 h => ?_
   refine s_callZ (kb := []) (ns := [(1000, 0)]) (v := .agg (recV x6)) rfl rfl cl164 (ws_l5Draw (Cur.mk v0_0 v0_1 v0_2) x6 x7 q8) rfl (.cons (.ptrOwn rfl) .nil) ⟨⟨_, rfl, rfl⟩, trivial⟩ (memCons (allFree_one rfl) memNil) (List.nodup_cons.2 ⟨List.not_mem_nil, .nil⟩) memNil trivial rfl trivial (memCons (allFree_one rfl) memNil) rfl rfl rfl rfl rfl rfl ?_
   refine s_buildSlice (rows' := List.map recV [x6]) rfl rfl rfl sl24 zc39 rfl rfl rfl rfl rfl rfl rfl rfl rfl ?_
   refine grd_elim h fun g9 h => ?_
   refine s_appL rfl rfl rfl sl24 zc39 rfl rfl rfl rfl rfl rfl (src_refL rfl rfl) g9 rfl rfl ?_
   refine m2 ?_
   refine rt_nil ?_
   refine tri_region ?_
   refine m1 ?_
   refine grd_elim h fun g10 h => ?_
   refine s_subI rfl rfl rfl rfl g10 rfl rfl rfl ?_
   refine m2 ?_
   refine rt_nil ?_
   refine Exists.intro ⟨(f0, x7.b, x7.i, x7.h, v0_3 ++ [x6], v0_4 - 1), h⟩ (And.intro (Nat.lt_succ_self _) ?_)
   refine entX [((1000, 0), ⟨136, 3, [[.lst 1 (List.map byteV x7.b), .sc (.int .i64 x7.i), .sc (.int .i64 x7.h)]], false, false⟩, some (1000, 0)), ((2005, 0), ⟨39, 6, List.map recV (v0_3 ++ [x6]), false, true⟩, some (20, 0))] [] ⟨⟨rfl, _, rfl, rfl, rfl, rfl, id, rowsCv_one (.cons (.free rfl) (.cons (.free rfl) (.cons (.free rfl) .nil))), rowsZ_one rfl⟩, ⟨rfl, _, rfl, rfl, rfl, rfl, id, rowsCv_eq rfl (allFree_map recV_free), rowsZ_map recV_len⟩, trivial⟩ trivial rfl rfl ?_
   exact ⟨(.ptr rfl), (.ref rfl), (.free rfl), trivial⟩
  ·replace h := cond_f h c5
   refine tri_exit ?_
   refine tri_sr ?_
   refine m1 ?_
   refine m2 ?_
   refine rt_nil ?_
   refine tri_ret ?_
   have e0 := (some2 h).1; have e1 := (some2 h).2; subst e0; subst e1
   exact endY (v' := .ref (2000, 0) 0 v0_3.length) [((2000, 0), ⟨39, 6, List.map recV v0_3, false, true⟩, some (2005, 0)), ((1000, 0), ⟨136, 3, [[.lst 1 (List.map byteV v0_0), .sc (.int .i64 v0_1), .sc (.int .i64 v0_2)]], false, false⟩, some (1000, 0))] [] (rvC (resTmp rfl) rvN) ⟨⟨rfl, _, rfl, rfl, rfl, rfl, id, rowsCv_eq rfl (allFree_map recV_free), rowsZ_map recV_len⟩, ⟨rfl, _, rfl, rfl, rfl, rfl, id, rowsCv_one (.cons (.free rfl) (.cons (.free rfl) (.cons (.free rfl) .nil))), rowsZ_one rfl⟩, trivial⟩ trivial rfl rfl (by kernel_rfl) (by simp only [V.mat, V.mat1, V.mat0, matL, matT, List.length_map] <;> rfl) (.ref rfl)

/- spec.l7Draw -/

set_option maxRecDepth 4000 in
set_option maxHeartbeats 800000 in
theorem ws_l7Draw (p0 : Cur) (r0 : MMsg) (r1 : Cur) (h : s_l7Draw p0 = some (r0, r1)) : Runs Tryd.prog 204 [.ptr (1000, 0) 0 0] [⟨136, 3, [[.lst 1 (List.map byteV p0.b), .sc (.int .i64 p0.i), .sc (.int .i64 p0.h)]], false, false⟩] (.agg [.sc (.int .i64 r0.id), .sc (.bool r0.reply), .sc (.bool r0.auth), .sc (.bool r0.cut), .sc (.bool r0.want), .sc (.bool r0.can), .sc (.int .i64 r0.code), .sc (.string r0.q.name), .sc (.int .i64 r0.q.ty), .own 39 6 (List.map recV r0.an), .own 39 6 (List.map recV r0.au), .own 39 6 (List.map recV r0.ad)]) [⟨136, 3, [[.lst 1 (List.map byteV r1.b), .sc (.int .i64 r1.i), .sc (.int .i64 r1.h)]], false, false⟩] := by
 unfold s_l7Draw at h
 refine runsR [.cell 2 50] Tryd.func204 rfl rfl rfl rfl ?_
 rw [Tryd.ntmps204]
 refine tri_sr ?_
 refine s_alloc rfl rfl rfl zc50 rfl rfl rfl rfl rfl ?_
 refine rt_nil ?_
 refine tri_sr ?_
 refine m1 ?_
 refine bnd2_elim h fun x1 x2 q3 h => ?_
 refine s_callZ (kb := []) (ns := [(1000, 0)]) (v := .sc (.int .i64 x1)) rfl rfl cl116 (ws_l1Below p0 70000 x1 x2 q3) rfl (.cons (.ptrOwn rfl) (.cons (.free rfl) .nil)) ⟨⟨_, rfl, rfl⟩, trivial⟩ (memCons (allFree_one rfl) memNil) (List.nodup_cons.2 ⟨List.not_mem_nil, .nil⟩) memNil trivial rfl trivial (memCons (allFree_one rfl) memNil) rfl rfl rfl rfl rfl rfl ?_
 refine s_of (st_rem rfl rfl rfl (by decide)) rfl rfl rfl rfl ?_
 refine m1 ?_
 refine bnd2_elim h fun x4 x5 q6 h => ?_
 refine s_callZ (kb := []) (ns := [(1000, 0)]) (v := .agg (questV x4)) rfl rfl cl217 (ws_l7Quest x2 x4 x5 q6) rfl (.cons (.ptrOwn rfl) .nil) ⟨⟨_, rfl, rfl⟩, trivial⟩ (memCons (allFree_one rfl) memNil) (List.nodup_cons.2 ⟨List.not_mem_nil, .nil⟩) memNil trivial rfl trivial (memCons (allFree_one rfl) memNil) rfl rfl rfl rfl rfl rfl ?_
 refine bnd1_elim h fun x7 q8 h => ?_
 refine s_callN (kb := []) (ns := []) (v := .agg [.sc (.int .i64 x7.id), .sc (.bool x7.reply), .sc (.bool x7.auth), .sc (.bool x7.cut), .sc (.bool x7.want), .sc (.bool x7.can), .sc (.int .i64 x7.code), .sc (.string x7.q.name), .sc (.int .i64 x7.q.ty), .ref (9, 9) 0 x7.an.length, .ref (9, 10) 0 x7.au.length, .ref (9, 11) 0 x7.ad.length]) rfl rfl cl133 (ws_AskMsg (Int.tmod x1 65536) x4 x7 q8) rfl (.cons (.free rfl) (.cons (relAgg rfl) .nil)) trivial memNil .nil memNil rfl ⟨(allSc_map recV_sc), ⟨(allSc_map recV_sc), ⟨(allSc_map recV_sc), trivial⟩⟩⟩ memNil rfl (by simp only [V.mat, V.mat1, V.mat0, matL, matT, List.length_map] <;> rfl) rfl rfl rfl rfl ?_
 refine s_alloc rfl rfl rfl zc50 rfl rfl rfl rfl rfl ?_
 refine s_storeB rfl rfl rfl ty50 rfl rfl rfl rfl rfl ?_
 refine rt_nil ?_
 refine tri_seq ?_
 refine tri_sr ?_
 refine m1 ?_
 refine bnd2_elim h fun x9 x10 q11 h => ?_
 refine s_callZ (kb := []) (ns := [(1000, 0)]) (v := .sc (.bool x9)) rfl rfl cl113 (ws_l1Once x5 3 x9 x10 q11) rfl (.cons (.ptrOwn rfl) (.cons (.free rfl) .nil)) ⟨⟨_, rfl, rfl⟩, trivial⟩ (memCons (allFree_one rfl) memNil) (List.nodup_cons.2 ⟨List.not_mem_nil, .nil⟩) memNil trivial rfl trivial (memCons (allFree_one rfl) memNil) rfl rfl rfl rfl rfl rfl ?_
 refine rt_nil ?_
 refine tri_cond rfl (fun c12 => ?_) (fun c12 => ?_)
 ·replace h := cond_t h c12
  refine tri_sr ?_
  refine s_fieldAddr rfl rfl fd50_4 rfl rfl rfl rfl ?_
  refine s_store (rows' := [[.sc (.int .i64 x7.id), .sc (.bool x7.reply), .sc (.bool x7.auth), .sc (.bool x7.cut), .sc (.bool true), .sc (.bool x7.can), .sc (.int .i64 x7.code), .sc (.string x7.q.name), .sc (.int .i64 x7.q.ty), .ref (9, 9) 0 x7.an.length, .ref (9, 10) 0 x7.au.length, .ref (9, 11) 0 x7.ad.length]]) rfl rfl rfl rfl ty4 rfl rfl rfl rfl rfl rfl ?_
  refine rt_nil ?_
  refine tri_sr ?_
  refine s_loadR rfl rfl rfl rfl ty50 rfl rfl rfl ?_
  refine s_storeB rfl rfl rfl ty50 rfl rfl rfl rfl rfl ?_
  refine rt_nil ?_
  refine tri_ret ?_
  have e0 := (some2 h).1; have e1 := (some2 h).2; subst e0; subst e1
  exact endY (v' := .agg [.sc (.int .i64 x7.id), .sc (.bool x7.reply), .sc (.bool x7.auth), .sc (.bool x7.cut), .sc (.bool true), .sc (.bool x7.can), .sc (.int .i64 x7.code), .sc (.string x7.q.name), .sc (.int .i64 x7.q.ty), .ref (2000, 9) 0 x7.an.length, .ref (2000, 10) 0 x7.au.length, .ref (2000, 11) 0 x7.ad.length]) [((2000, 9), ⟨39, 6, List.map recV x7.an, false, true⟩, some (9, 9)), ((2000, 10), ⟨39, 6, List.map recV x7.au, false, true⟩, some (9, 10)), ((2000, 11), ⟨39, 6, List.map recV x7.ad, false, true⟩, some (9, 11)), ((1000, 0), ⟨136, 3, [[.lst 1 (List.map byteV x10.b), .sc (.int .i64 x10.i), .sc (.int .i64 x10.h)]], false, false⟩, some (1000, 0))] [] (rvC (resCell rfl rfl ty50) rvN) ⟨⟨rfl, _, rfl, rfl, rfl, rfl, id, rowsCv_eq rfl (allFree_map recV_free), rowsZ_map recV_len⟩, ⟨rfl, _, rfl, rfl, rfl, rfl, id, rowsCv_eq rfl (allFree_map recV_free), rowsZ_map recV_len⟩, ⟨rfl, _, rfl, rfl, rfl, rfl, id, rowsCv_eq rfl (allFree_map recV_free), rowsZ_map recV_len⟩, ⟨rfl, _, rfl, rfl, rfl, rfl, id, rowsCv_one (.cons (.free rfl) (.cons (.free rfl) (.cons (.free rfl) .nil))), rowsZ_one rfl⟩, trivial⟩ trivial rfl rfl (by kernel_rfl) (by simp only [V.mat, V.mat1, V.mat0, matL, matT, List.length_map] <;> rfl) (CvL.agg (.cons (.free rfl) (.cons (.free rfl) (.cons (.free rfl) (.cons (.free rfl) (.cons (.free rfl) (.cons (.free rfl) (.cons (.free rfl) (.cons (.free rfl) (.cons (.free rfl) (.cons (.ref rfl) (.cons (.ref rfl) (.cons (.ref rfl) .nil)))))))))))))
 ·replace h := cond_f h c12
  refine tri_skip ?_
  refine tri_sr ?_
  refine s_fieldAddr rfl rfl fd50_1 rfl rfl rfl rfl ?_
  refine s_store (rows' := [[.sc (.int .i64 x7.id), .sc (.bool true), .sc (.bool x7.auth), .sc (.bool x7.cut), .sc (.bool x7.want), .sc (.bool x7.can), .sc (.int .i64 x7.code), .sc (.string x7.q.name), .sc (.int .i64 x7.q.ty), .ref (9, 9) 0 x7.an.length, .ref (9, 10) 0 x7.au.length, .ref (9, 11) 0 x7.ad.length]]) rfl rfl rfl rfl ty4 rfl rfl rfl rfl rfl rfl ?_
  refine rt_nil ?_
  refine tri_sr ?_
  refine m1 ?_
  refine bnd2_elim h fun x13 x14 q15 h => ?_
  refine s_callZ (kb := []) (ns := [(1000, 0)]) (v := .sc (.bool x13)) rfl rfl cl113 (ws_l1Once x10 2 x13 x14 q15) rfl (.cons (.ptrOwn rfl) (.cons (.free rfl) .nil)) ⟨⟨_, rfl, rfl⟩, trivial⟩ (memCons (allFree_one rfl) memNil) (List.nodup_cons.2 ⟨List.not_mem_nil, .nil⟩) memNil trivial rfl trivial (memCons (allFree_one rfl) memNil) rfl rfl rfl rfl rfl rfl ?_
  refine s_fieldAddr rfl rfl fd50_2 rfl rfl rfl rfl ?_
  refine s_store (rows' := [[.sc (.int .i64 x7.id), .sc (.bool true), .sc (.bool x13), .sc (.bool x7.cut), .sc (.bool x7.want), .sc (.bool x7.can), .sc (.int .i64 x7.code), .sc (.string x7.q.name), .sc (.int .i64 x7.q.ty), .ref (9, 9) 0 x7.an.length, .ref (9, 10) 0 x7.au.length, .ref (9, 11) 0 x7.ad.length]]) rfl rfl rfl rfl ty4 rfl rfl rfl rfl rfl rfl ?_
  refine rt_nil ?_
  refine tri_sr ?_
  refine m1 ?_
  refine bnd2_elim h fun x16 x17 q18 h => ?_
  refine s_callZ (kb := []) (ns := [(1000, 0)]) (v := .sc (.bool x16)) rfl rfl cl113 (ws_l1Once x14 9 x16 x17 q18) rfl (.cons (.ptrOwn rfl) (.cons (.free rfl) .nil)) ⟨⟨_, rfl, rfl⟩, trivial⟩ (memCons (allFree_one rfl) memNil) (List.nodup_cons.2 ⟨List.not_mem_nil, .nil⟩) memNil trivial rfl trivial (memCons (allFree_one rfl) memNil) rfl rfl rfl rfl rfl rfl ?_
  refine s_fieldAddr rfl rfl fd50_3 rfl rfl rfl rfl ?_
  refine s_store (rows' := [[.sc (.int .i64 x7.id), .sc (.bool true), .sc (.bool x13), .sc (.bool x16), .sc (.bool x7.want), .sc (.bool x7.can), .sc (.int .i64 x7.code), .sc (.string x7.q.name), .sc (.int .i64 x7.q.ty), .ref (9, 9) 0 x7.an.length, .ref (9, 10) 0 x7.au.length, .ref (9, 11) 0 x7.ad.length]]) rfl rfl rfl rfl ty4 rfl rfl rfl rfl rfl rfl ?_
  refine rt_nil ?_
  refine tri_sr ?_
  refine m1 ?_
  refine bnd2_elim h fun x19 x20 q21 h => ?_
  refine s_callZ (kb := []) (ns := [(1000, 0)]) (v := .sc (.bool x19)) rfl rfl cl113 (ws_l1Once x17 5 x19 x20 q21) rfl (.cons (.ptrOwn rfl) (.cons (.free rfl) .nil)) ⟨⟨_, rfl, rfl⟩, trivial⟩ (memCons (allFree_one rfl) memNil) (List.nodup_cons.2 ⟨List.not_mem_nil, .nil⟩) memNil trivial rfl trivial (memCons (allFree_one rfl) memNil) rfl rfl rfl rfl rfl rfl ?_
  refine s_fieldAddr rfl rfl fd50_5 rfl rfl rfl rfl ?_
  refine s_store (rows' := [[.sc (.int .i64 x7.id), .sc (.bool true), .sc (.bool x13), .sc (.bool x16), .sc (.bool x7.want), .sc (.bool x19), .sc (.int .i64 x7.code), .sc (.string x7.q.name), .sc (.int .i64 x7.q.ty), .ref (9, 9) 0 x7.an.length, .ref (9, 10) 0 x7.au.length, .ref (9, 11) 0 x7.ad.length]]) rfl rfl rfl rfl ty4 rfl rfl rfl rfl rfl rfl ?_
  refine rt_nil ?_
  refine tri_sr ?_
  refine m1 ?_
  refine s_buildSlice (rows' := List.map intV [0, 0, 0, 3, 2, 5, 15]) rfl rfl rfl sl76 zc3 rfl rfl rfl rfl rfl rfl rfl rfl rfl ?_
  refine bnd2_elim h fun x22 x23 q24 h => ?_
  refine s_callZ (kb := [(25, 0)]) (ns := [(1000, 0)]) (v := .sc (.int .i64 x22)) rfl rfl cl140 (ws_l1Int x20 [0, 0, 0, 3, 2, 5, 15] x22 x23 q24) rfl (.cons (.ptrOwn rfl) (.cons (lendL rfl (.head _) rfl intV_free intV_len) .nil)) ⟨⟨_, rfl, rfl⟩, trivial⟩ (memCons (allFree_one rfl) memNil) (List.nodup_cons.2 ⟨List.not_mem_nil, .nil⟩) (by decide) ⟨⟨_, rfl, rfl⟩, trivial⟩ rfl trivial (memCons (allFree_one rfl) memNil) rfl rfl rfl rfl rfl rfl ?_
  refine s_fieldAddr rfl rfl fd50_6 rfl rfl rfl rfl ?_
  refine s_store (rows' := [[.sc (.int .i64 x7.id), .sc (.bool true), .sc (.bool x13), .sc (.bool x16), .sc (.bool x7.want), .sc (.bool x19), .sc (.int .i64 x22), .sc (.string x7.q.name), .sc (.int .i64 x7.q.ty), .ref (9, 9) 0 x7.an.length, .ref (9, 10) 0 x7.au.length, .ref (9, 11) 0 x7.ad.length]]) rfl rfl rfl rfl ty3 rfl rfl rfl rfl rfl rfl ?_
  refine rt_nil ?_
  refine tri_sr ?_
  refine m1 ?_
  refine bnd2_elim h fun x25 x26 q27 h => ?_
  refine s_callZ (kb := []) (ns := [(1000, 0)]) (v := .ref (29, 0) 0 x25.length) rfl rfl cl117 (ws_l5List x23 3 x25 x26 q27) rfl (.cons (.ptrOwn rfl) (.cons (.free rfl) .nil)) ⟨⟨_, rfl, rfl⟩, trivial⟩ (memCons (allFree_one rfl) memNil) (List.nodup_cons.2 ⟨List.not_mem_nil, .nil⟩) memNil trivial rfl ⟨(allFree_map recV_free), trivial⟩ (memCons (allFree_one rfl) memNil) rfl (by simp only [V.mat, V.mat1, V.mat0, matL, matT, List.length_map] <;> rfl) rfl rfl rfl rfl ?_
  refine s_fieldAddr rfl rfl fd50_8 rfl rfl rfl rfl ?_
  refine s_store (rows' := [[.sc (.int .i64 x7.id), .sc (.bool true), .sc (.bool x13), .sc (.bool x16), .sc (.bool x7.want), .sc (.bool x19), .sc (.int .i64 x22), .sc (.string x7.q.name), .sc (.int .i64 x7.q.ty), .ref (29, 0) 0 x25.length, .ref (9, 10) 0 x7.au.length, .ref (9, 11) 0 x7.ad.length]]) rfl rfl rfl rfl ty24 rfl rfl rfl rfl rfl rfl ?_
  refine rt_nil ?_
  refine tri_sr ?_
  refine m1 ?_
  refine bnd2_elim h fun x28 x29 q30 h => ?_
  refine s_callZ (kb := []) (ns := [(1000, 0)]) (v := .ref (32, 0) 0 x28.length) rfl rfl cl117 (ws_l5List x26 2 x28 x29 q30) rfl (.cons (.ptrOwn rfl) (.cons (.free rfl) .nil)) ⟨⟨_, rfl, rfl⟩, trivial⟩ (memCons (allFree_one rfl) memNil) (List.nodup_cons.2 ⟨List.not_mem_nil, .nil⟩) memNil trivial rfl ⟨(allFree_map recV_free), trivial⟩ (memCons (allFree_one rfl) memNil) rfl (by simp only [V.mat, V.mat1, V.mat0, matL, matT, List.length_map] <;> rfl) rfl rfl rfl rfl ?_
  refine s_fieldAddr rfl rfl fd50_9 rfl rfl rfl rfl ?_
  refine s_store (rows' := [[.sc (.int .i64 x7.id), .sc (.bool true), .sc (.bool x13), .sc (.bool x16), .sc (.bool x7.want), .sc (.bool x19), .sc (.int .i64 x22), .sc (.string x7.q.name), .sc (.int .i64 x7.q.ty), .ref (29, 0) 0 x25.length, .ref (32, 0) 0 x28.length, .ref (9, 11) 0 x7.ad.length]]) rfl rfl rfl rfl ty24 rfl rfl rfl rfl rfl rfl ?_
  refine rt_nil ?_
  refine tri_sr ?_
  refine m1 ?_
  refine bnd2_elim h fun x31 x32 q33 h => ?_
  refine s_callZ (kb := []) (ns := [(1000, 0)]) (v := .ref (35, 0) 0 x31.length) rfl rfl cl117 (ws_l5List x29 2 x31 x32 q33) rfl (.cons (.ptrOwn rfl) (.cons (.free rfl) .nil)) ⟨⟨_, rfl, rfl⟩, trivial⟩ (memCons (allFree_one rfl) memNil) (List.nodup_cons.2 ⟨List.not_mem_nil, .nil⟩) memNil trivial rfl ⟨(allFree_map recV_free), trivial⟩ (memCons (allFree_one rfl) memNil) rfl (by simp only [V.mat, V.mat1, V.mat0, matL, matT, List.length_map] <;> rfl) rfl rfl rfl rfl ?_
  refine s_fieldAddr rfl rfl fd50_10 rfl rfl rfl rfl ?_
  refine s_store (rows' := [[.sc (.int .i64 x7.id), .sc (.bool true), .sc (.bool x13), .sc (.bool x16), .sc (.bool x7.want), .sc (.bool x19), .sc (.int .i64 x22), .sc (.string x7.q.name), .sc (.int .i64 x7.q.ty), .ref (29, 0) 0 x25.length, .ref (32, 0) 0 x28.length, .ref (35, 0) 0 x31.length]]) rfl rfl rfl rfl ty24 rfl rfl rfl rfl rfl rfl ?_
  refine rt_nil ?_
  refine tri_sr ?_
  refine s_loadR rfl rfl rfl rfl ty50 rfl rfl rfl ?_
  refine s_storeB rfl rfl rfl ty50 rfl rfl rfl rfl rfl ?_
  refine rt_nil ?_
  refine tri_ret ?_
  have e0 := (some2 h).1; have e1 := (some2 h).2; subst e0; subst e1
  exact endY (v' := .agg [.sc (.int .i64 x7.id), .sc (.bool true), .sc (.bool x13), .sc (.bool x16), .sc (.bool x7.want), .sc (.bool x19), .sc (.int .i64 x22), .sc (.string x7.q.name), .sc (.int .i64 x7.q.ty), .ref (2000, 9) 0 x25.length, .ref (2000, 10) 0 x28.length, .ref (2000, 11) 0 x31.length]) [((2000, 9), ⟨39, 6, List.map recV x25, false, true⟩, some (29, 0)), ((2000, 10), ⟨39, 6, List.map recV x28, false, true⟩, some (32, 0)), ((2000, 11), ⟨39, 6, List.map recV x31, false, true⟩, some (35, 0)), ((1000, 0), ⟨136, 3, [[.lst 1 (List.map byteV x32.b), .sc (.int .i64 x32.i), .sc (.int .i64 x32.h)]], false, false⟩, some (1000, 0))] [] (rvC (resCell rfl rfl ty50) rvN) ⟨⟨rfl, _, rfl, rfl, rfl, rfl, id, rowsCv_eq rfl (allFree_map recV_free), rowsZ_map recV_len⟩, ⟨rfl, _, rfl, rfl, rfl, rfl, id, rowsCv_eq rfl (allFree_map recV_free), rowsZ_map recV_len⟩, ⟨rfl, _, rfl, rfl, rfl, rfl, id, rowsCv_eq rfl (allFree_map recV_free), rowsZ_map recV_len⟩, ⟨rfl, _, rfl, rfl, rfl, rfl, id, rowsCv_one (.cons (.free rfl) (.cons (.free rfl) (.cons (.free rfl) .nil))), rowsZ_one rfl⟩, trivial⟩ trivial rfl rfl (by kernel_rfl) (by simp only [V.mat, V.mat1, V.mat0, matL, matT, List.length_map] <;> rfl) (CvL.agg (.cons (.free rfl) (.cons (.free rfl) (.cons (.free rfl) (.cons (.free rfl) (.cons (.free rfl) (.cons (.free rfl) (.cons (.free rfl) (.cons (.free rfl) (.cons (.free rfl) (.cons (.ref rfl) (.cons (.ref rfl) (.cons (.ref rfl) .nil)))))))))))))

/- spec.l3Any -/

set_option maxRecDepth 4000 in
set_option maxHeartbeats 800000 in
theorem ws_l3Any (p0 : Cur) (r0 : ByteArray) (r1 : Cur) (h : s_l3Any p0 = some (r0, r1)) : Runs Tryd.prog 205 [.ptr (1000, 0) 0 0] [⟨136, 3, [[.lst 1 (List.map byteV p0.b), .sc (.int .i64 p0.i), .sc (.int .i64 p0.h)]], false, false⟩] (.sc (.string r0)) [⟨136, 3, [[.lst 1 (List.map byteV r1.b), .sc (.int .i64 r1.i), .sc (.int .i64 r1.h)]], false, false⟩] := by
 unfold s_l3Any at h
 refine runsR [.tmp 2] Tryd.func205 rfl rfl rfl rfl ?_
 rw [Tryd.ntmps205]
 refine tri_sr ?_
 refine s_mv (.inr rfl) (v := .sc (.string (⟨#[]⟩ : ByteArray))) rfl rfl rfl rfl ?_
 refine rt_nil ?_
 refine tri_seq ?_
 refine tri_sr ?_
 refine m1 ?_
 refine bnd2_elim h fun x1 x2 q3 h => ?_
 refine s_callZ (kb := []) (ns := [(1000, 0)]) (v := .sc (.bool x1)) rfl rfl cl113 (ws_l1Once p0 5 x1 x2 q3) rfl (.cons (.ptrOwn rfl) (.cons (.free rfl) .nil)) ⟨⟨_, rfl, rfl⟩, trivial⟩ (memCons (allFree_one rfl) memNil) (List.nodup_cons.2 ⟨List.not_mem_nil, .nil⟩) memNil trivial rfl trivial (memCons (allFree_one rfl) memNil) rfl rfl rfl rfl rfl rfl ?_
 refine rt_nil ?_
 refine tri_cond rfl (fun c4 => ?_) (fun c4 => ?_)
 ·replace h := cond_t h c4
  refine tri_sr ?_
  refine m1 ?_
  refine s_buildSlice (rows' := List.map strV [(⟨#[46]⟩ : ByteArray), (⟨#[97, 46]⟩ : ByteArray), (⟨#[65, 46, 99, 111, 109]⟩ : ByteArray), (⟨#[97, 46, 46, 98]⟩ : ByteArray), (⟨#[97, 46, 98, 46, 99, 46, 100, 46, 101, 46, 102]⟩ : ByteArray), (⟨#[97, 46, 98, 46, 99, 46, 100, 46, 101, 46, 102, 46, 103]⟩ : ByteArray), (⟨#[116, 119, 101, 108, 118, 101, 98, 121, 116, 101, 115, 48, 46, 116, 119, 101, 108, 118, 101, 98, 121, 116, 101, 115, 48, 46, 116, 119, 101, 108, 118, 101, 98, 121, 116, 101, 115, 48, 46, 116, 119, 101, 108, 118, 101, 98, 121, 116, 101, 115, 48]⟩ : ByteArray), (⟨#[116, 104, 105, 114, 116, 101, 101, 110, 98, 121, 116, 101, 115, 46, 97]⟩ : ByteArray)]) rfl rfl rfl sl33 zc9 rfl rfl rfl rfl rfl rfl rfl rfl rfl ?_
  refine bnd2_elim h fun x5 x6 q7 h => ?_
  refine s_callZ (kb := [(6, 0)]) (ns := [(1000, 0)]) (v := .sc (.string x5)) rfl rfl cl118 (ws_l1Str x2 ([(⟨#[46]⟩ : ByteArray), (⟨#[97, 46]⟩ : ByteArray), (⟨#[65, 46, 99, 111, 109]⟩ : ByteArray), (⟨#[97, 46, 46, 98]⟩ : ByteArray), (⟨#[97, 46, 98, 46, 99, 46, 100, 46, 101, 46, 102]⟩ : ByteArray), (⟨#[97, 46, 98, 46, 99, 46, 100, 46, 101, 46, 102, 46, 103]⟩ : ByteArray), (⟨#[116, 119, 101, 108, 118, 101, 98, 121, 116, 101, 115, 48, 46, 116, 119, 101, 108, 118, 101, 98, 121, 116, 101, 115, 48, 46, 116, 119, 101, 108, 118, 101, 98, 121, 116, 101, 115, 48, 46, 116, 119, 101, 108, 118, 101, 98, 121, 116, 101, 115, 48]⟩ : ByteArray), (⟨#[116, 104, 105, 114, 116, 101, 101, 110, 98, 121, 116, 101, 115, 46, 97]⟩ : ByteArray)]) x5 x6 q7) rfl (.cons (.ptrOwn rfl) (.cons (lendL rfl (.head _) rfl strV_free strV_len) .nil)) ⟨⟨_, rfl, rfl⟩, trivial⟩ (memCons (allFree_one rfl) memNil) (List.nodup_cons.2 ⟨List.not_mem_nil, .nil⟩) (by decide) ⟨⟨_, rfl, rfl⟩, trivial⟩ rfl trivial (memCons (allFree_one rfl) memNil) rfl rfl rfl rfl rfl rfl ?_
  refine m2 ?_
  refine rt_nil ?_
  refine tri_ret ?_
  have e0 := (some2 h).1; have e1 := (some2 h).2; subst e0; subst e1
  exact endY [((1000, 0), ⟨136, 3, [[.lst 1 (List.map byteV x6.b), .sc (.int .i64 x6.i), .sc (.int .i64 x6.h)]], false, false⟩, some (1000, 0))] [] (rvC (resTmp rfl) rvN) ⟨⟨rfl, _, rfl, rfl, rfl, rfl, id, rowsCv_one (.cons (.free rfl) (.cons (.free rfl) (.cons (.free rfl) .nil))), rowsZ_one rfl⟩, trivial⟩ trivial rfl rfl (by kernel_rfl) rfl (.free rfl)
 ·replace h := cond_f h c4
  refine tri_skip ?_
  refine tri_sr ?_
  refine m1 ?_
  refine bnd2_elim h fun x8 x9 q10 h => ?_
  refine s_callZ (kb := []) (ns := [(1000, 0)]) (v := .sc (.string x8)) rfl rfl cl193 (ws_l3Name x2 x8 x9 q10) rfl (.cons (.ptrOwn rfl) .nil) ⟨⟨_, rfl, rfl⟩, trivial⟩ (memCons (allFree_one rfl) memNil) (List.nodup_cons.2 ⟨List.not_mem_nil, .nil⟩) memNil trivial rfl trivial (memCons (allFree_one rfl) memNil) rfl rfl rfl rfl rfl rfl ?_
  refine m2 ?_
  refine rt_nil ?_
  refine tri_ret ?_
  have e0 := (some2 h).1; have e1 := (some2 h).2; subst e0; subst e1
  exact endY [((1000, 0), ⟨136, 3, [[.lst 1 (List.map byteV x9.b), .sc (.int .i64 x9.i), .sc (.int .i64 x9.h)]], false, false⟩, some (1000, 0))] [] (rvC (resTmp rfl) rvN) ⟨⟨rfl, _, rfl, rfl, rfl, rfl, id, rowsCv_one (.cons (.free rfl) (.cons (.free rfl) (.cons (.free rfl) .nil))), rowsZ_one rfl⟩, trivial⟩ trivial rfl rfl (by kernel_rfl) rfl (.free rfl)

/- spec.l5Any -/

set_option maxRecDepth 4000 in
set_option maxHeartbeats 800000 in
theorem ws_l5Any (p0 : Cur) (r0 : Rec) (r1 : Cur) (h : s_l5Any p0 = some (r0, r1)) : Runs Tryd.prog 206 [.ptr (1000, 0) 0 0] [⟨136, 3, [[.lst 1 (List.map byteV p0.b), .sc (.int .i64 p0.i), .sc (.int .i64 p0.h)]], false, false⟩] (.agg (recV r0)) [⟨136, 3, [[.lst 1 (List.map byteV r1.b), .sc (.int .i64 r1.i), .sc (.int .i64 r1.h)]], false, false⟩] := by
 unfold s_l5Any at h
 refine runsR [.cell 2 39] Tryd.func206 rfl rfl rfl rfl ?_
 rw [Tryd.ntmps206]
 refine tri_sr ?_
 refine s_alloc rfl rfl rfl zc39 rfl rfl rfl rfl rfl ?_
 refine rt_nil ?_
 refine tri_sr ?_
 refine m1 ?_
 refine bnd2_elim h fun x1 x2 q3 h => ?_
 refine s_callZ (kb := []) (ns := [(1000, 0)]) (v := .agg (recV x1)) rfl rfl cl164 (ws_l5Draw p0 x1 x2 q3) rfl (.cons (.ptrOwn rfl) .nil) ⟨⟨_, rfl, rfl⟩, trivial⟩ (memCons (allFree_one rfl) memNil) (List.nodup_cons.2 ⟨List.not_mem_nil, .nil⟩) memNil trivial rfl trivial (memCons (allFree_one rfl) memNil) rfl rfl rfl rfl rfl rfl ?_
 refine s_alloc rfl rfl rfl zc39 rfl rfl rfl rfl rfl ?_
 refine s_storeB rfl rfl rfl ty39 rfl rfl rfl rfl rfl ?_
 refine rt_nil ?_
 refine tri_seq ?_
 refine tri_sr ?_
 refine m1 ?_
 refine bnd2_elim h fun x4 x5 q6 h => ?_
 refine s_callZ (kb := []) (ns := [(1000, 0)]) (v := .sc (.int .i64 x4)) rfl rfl cl116 (ws_l1Below x2 12 x4 x5 q6) rfl (.cons (.ptrOwn rfl) (.cons (.free rfl) .nil)) ⟨⟨_, rfl, rfl⟩, trivial⟩ (memCons (allFree_one rfl) memNil) (List.nodup_cons.2 ⟨List.not_mem_nil, .nil⟩) memNil trivial rfl trivial (memCons (allFree_one rfl) memNil) rfl rfl rfl rfl rfl rfl ?_
 refine rt_nil ?_
 refine tri_block ?_
 refine tri_sr ?_
 refine s_of (st_eqI rfl rfl rfl) rfl rfl rfl rfl ?_
 refine m2 ?_
 refine rt_nil ?_
 refine tri_cond rfl (fun c7 => ?_) (fun c7 => ?_)
 ·replace h := cond_t h c7
  refine tri_region ?_
  refine m1 ?_
  refine bnd2_elim h fun x8 x9 q10 h => ?_
  refine s_callZ (kb := []) (ns := [(1000, 0)]) (v := .sc (.string x8)) rfl rfl cl205 (ws_l3Any x5 x8 x9 q10) rfl (.cons (.ptrOwn rfl) .nil) ⟨⟨_, rfl, rfl⟩, trivial⟩ (memCons (allFree_one rfl) memNil) (List.nodup_cons.2 ⟨List.not_mem_nil, .nil⟩) memNil trivial rfl trivial (memCons (allFree_one rfl) memNil) rfl rfl rfl rfl rfl rfl ?_
  refine s_fieldAddr rfl rfl fd39_0 rfl rfl rfl rfl ?_
  refine s_store (rows' := [[.sc (.string x8), .sc (.int .i64 x1.ty), .sc (.int .i64 x1.ttl), .sc (.int .i64 x1.n), .sc (.string x1.host), .sc (.string x1.text)]]) rfl rfl rfl rfl ty9 rfl rfl rfl rfl rfl rfl ?_
  refine rt_nil ?_
  refine tri_sr ?_
  refine s_loadR rfl rfl rfl rfl ty39 rfl rfl rfl ?_
  refine s_storeB rfl rfl rfl ty39 rfl rfl rfl rfl rfl ?_
  refine rt_nil ?_
  refine tri_ret ?_
  have e0 := (some2 h).1; have e1 := (some2 h).2; subst e0; subst e1
  exact endY [((1000, 0), ⟨136, 3, [[.lst 1 (List.map byteV x9.b), .sc (.int .i64 x9.i), .sc (.int .i64 x9.h)]], false, false⟩, some (1000, 0))] [] (rvC (resCell rfl rfl ty39) rvN) ⟨⟨rfl, _, rfl, rfl, rfl, rfl, id, rowsCv_one (.cons (.free rfl) (.cons (.free rfl) (.cons (.free rfl) .nil))), rowsZ_one rfl⟩, trivial⟩ trivial rfl rfl (by kernel_rfl) rfl (cvAgg rfl)
 ·replace h := cond_f h c7
  refine tri_sr ?_
  refine s_of (st_eqI rfl rfl rfl) rfl rfl rfl rfl ?_
  refine m2 ?_
  refine rt_nil ?_
  refine tri_cond rfl (fun c11 => ?_) (fun c11 => ?_)
  ·replace h := cond_t h c11
   refine tri_region ?_
   refine m1 ?_
   refine s_buildSlice (rows' := List.map intV [0, 3, 15, 1, 2, 6]) rfl rfl rfl sl76 zc3 rfl rfl rfl rfl rfl rfl rfl rfl rfl ?_
   refine bnd2_elim h fun x12 x13 q14 h => ?_
   refine s_callZ (kb := [(16, 0)]) (ns := [(1000, 0)]) (v := .sc (.int .i64 x12)) rfl rfl cl140 (ws_l1Int x5 [0, 3, 15, 1, 2, 6] x12 x13 q14) rfl (.cons (.ptrOwn rfl) (.cons (lendL rfl (.head _) rfl intV_free intV_len) .nil)) ⟨⟨_, rfl, rfl⟩, trivial⟩ (memCons (allFree_one rfl) memNil) (List.nodup_cons.2 ⟨List.not_mem_nil, .nil⟩) (by decide) ⟨⟨_, rfl, rfl⟩, trivial⟩ rfl trivial (memCons (allFree_one rfl) memNil) rfl rfl rfl rfl rfl rfl ?_
   refine s_fieldAddr rfl rfl fd39_1 rfl rfl rfl rfl ?_
   refine s_store (rows' := [[.sc (.string x1.name), .sc (.int .i64 x12), .sc (.int .i64 x1.ttl), .sc (.int .i64 x1.n), .sc (.string x1.host), .sc (.string x1.text)]]) rfl rfl rfl rfl ty3 rfl rfl rfl rfl rfl rfl ?_
   refine rt_nil ?_
   refine tri_sr ?_
   refine s_loadR rfl rfl rfl rfl ty39 rfl rfl rfl ?_
   refine s_storeB rfl rfl rfl ty39 rfl rfl rfl rfl rfl ?_
   refine rt_nil ?_
   refine tri_ret ?_
   have e0 := (some2 h).1; have e1 := (some2 h).2; subst e0; subst e1
   exact endY [((1000, 0), ⟨136, 3, [[.lst 1 (List.map byteV x13.b), .sc (.int .i64 x13.i), .sc (.int .i64 x13.h)]], false, false⟩, some (1000, 0))] [] (rvC (resCell rfl rfl ty39) rvN) ⟨⟨rfl, _, rfl, rfl, rfl, rfl, id, rowsCv_one (.cons (.free rfl) (.cons (.free rfl) (.cons (.free rfl) .nil))), rowsZ_one rfl⟩, trivial⟩ trivial rfl rfl (by kernel_rfl) rfl (cvAgg rfl)
  ·replace h := cond_f h c11
   refine tri_sr ?_
   refine s_of (st_eqI rfl rfl rfl) rfl rfl rfl rfl ?_
   refine m2 ?_
   refine rt_nil ?_
   refine tri_cond rfl (fun c15 => ?_) (fun c15 => ?_)
   ·replace h := cond_t h c15
    refine tri_region ?_
    refine m1 ?_
    refine s_buildSlice (rows' := List.map intV [(-1), 100000, 100001]) rfl rfl rfl sl76 zc3 rfl rfl rfl rfl rfl rfl rfl rfl rfl ?_
    refine bnd2_elim h fun x16 x17 q18 h => ?_
    refine s_callZ (kb := [(22, 0)]) (ns := [(1000, 0)]) (v := .sc (.int .i64 x16)) rfl rfl cl140 (ws_l1Int x5 [(-1), 100000, 100001] x16 x17 q18) rfl (.cons (.ptrOwn rfl) (.cons (lendL rfl (.head _) rfl intV_free intV_len) .nil)) ⟨⟨_, rfl, rfl⟩, trivial⟩ (memCons (allFree_one rfl) memNil) (List.nodup_cons.2 ⟨List.not_mem_nil, .nil⟩) (by decide) ⟨⟨_, rfl, rfl⟩, trivial⟩ rfl trivial (memCons (allFree_one rfl) memNil) rfl rfl rfl rfl rfl rfl ?_
    refine s_fieldAddr rfl rfl fd39_2 rfl rfl rfl rfl ?_
    refine s_store (rows' := [[.sc (.string x1.name), .sc (.int .i64 x1.ty), .sc (.int .i64 x16), .sc (.int .i64 x1.n), .sc (.string x1.host), .sc (.string x1.text)]]) rfl rfl rfl rfl ty3 rfl rfl rfl rfl rfl rfl ?_
    refine rt_nil ?_
    refine tri_sr ?_
    refine s_loadR rfl rfl rfl rfl ty39 rfl rfl rfl ?_
    refine s_storeB rfl rfl rfl ty39 rfl rfl rfl rfl rfl ?_
    refine rt_nil ?_
    refine tri_ret ?_
    have e0 := (some2 h).1; have e1 := (some2 h).2; subst e0; subst e1
    exact endY [((1000, 0), ⟨136, 3, [[.lst 1 (List.map byteV x17.b), .sc (.int .i64 x17.i), .sc (.int .i64 x17.h)]], false, false⟩, some (1000, 0))] [] (rvC (resCell rfl rfl ty39) rvN) ⟨⟨rfl, _, rfl, rfl, rfl, rfl, id, rowsCv_one (.cons (.free rfl) (.cons (.free rfl) (.cons (.free rfl) .nil))), rowsZ_one rfl⟩, trivial⟩ trivial rfl rfl (by kernel_rfl) rfl (cvAgg rfl)
   ·replace h := cond_f h c15
    refine tri_sr ?_
    refine s_of (st_eqI rfl rfl rfl) rfl rfl rfl rfl ?_
    refine m2 ?_
    refine rt_nil ?_
    refine tri_cond rfl (fun c19 => ?_) (fun c19 => ?_)
    ·replace h := cond_t h c19
     refine tri_region ?_
     refine m1 ?_
     refine s_buildSlice (rows' := List.map intV [(-1), 2147483647, 2147483648, 100001, 0]) rfl rfl rfl sl76 zc3 rfl rfl rfl rfl rfl rfl rfl rfl rfl ?_
     refine bnd2_elim h fun x20 x21 q22 h => ?_
     refine s_callZ (kb := [(28, 0)]) (ns := [(1000, 0)]) (v := .sc (.int .i64 x20)) rfl rfl cl140 (ws_l1Int x5 [(-1), 2147483647, 2147483648, 100001, 0] x20 x21 q22) rfl (.cons (.ptrOwn rfl) (.cons (lendL rfl (.head _) rfl intV_free intV_len) .nil)) ⟨⟨_, rfl, rfl⟩, trivial⟩ (memCons (allFree_one rfl) memNil) (List.nodup_cons.2 ⟨List.not_mem_nil, .nil⟩) (by decide) ⟨⟨_, rfl, rfl⟩, trivial⟩ rfl trivial (memCons (allFree_one rfl) memNil) rfl rfl rfl rfl rfl rfl ?_
     refine s_fieldAddr rfl rfl fd39_3 rfl rfl rfl rfl ?_
     refine s_store (rows' := [[.sc (.string x1.name), .sc (.int .i64 x1.ty), .sc (.int .i64 x1.ttl), .sc (.int .i64 x20), .sc (.string x1.host), .sc (.string x1.text)]]) rfl rfl rfl rfl ty3 rfl rfl rfl rfl rfl rfl ?_
     refine rt_nil ?_
     refine tri_sr ?_
     refine s_loadR rfl rfl rfl rfl ty39 rfl rfl rfl ?_
     refine s_storeB rfl rfl rfl ty39 rfl rfl rfl rfl rfl ?_
     refine rt_nil ?_
     refine tri_ret ?_
     have e0 := (some2 h).1; have e1 := (some2 h).2; subst e0; subst e1
     exact endY [((1000, 0), ⟨136, 3, [[.lst 1 (List.map byteV x21.b), .sc (.int .i64 x21.i), .sc (.int .i64 x21.h)]], false, false⟩, some (1000, 0))] [] (rvC (resCell rfl rfl ty39) rvN) ⟨⟨rfl, _, rfl, rfl, rfl, rfl, id, rowsCv_one (.cons (.free rfl) (.cons (.free rfl) (.cons (.free rfl) .nil))), rowsZ_one rfl⟩, trivial⟩ trivial rfl rfl (by kernel_rfl) rfl (cvAgg rfl)
    ·replace h := cond_f h c19
     refine tri_sr ?_
     refine s_of (st_eqI rfl rfl rfl) rfl rfl rfl rfl ?_
     refine m2 ?_
     refine rt_nil ?_
     refine tri_cond rfl (fun c23 => ?_) (fun c23 => ?_)
     ·replace h := cond_t h c23
      refine tri_region ?_
      refine m1 ?_
      refine bnd2_elim h fun x24 x25 q26 h => ?_
      refine s_callZ (kb := []) (ns := [(1000, 0)]) (v := .sc (.string x24)) rfl rfl cl205 (ws_l3Any x5 x24 x25 q26) rfl (.cons (.ptrOwn rfl) .nil) ⟨⟨_, rfl, rfl⟩, trivial⟩ (memCons (allFree_one rfl) memNil) (List.nodup_cons.2 ⟨List.not_mem_nil, .nil⟩) memNil trivial rfl trivial (memCons (allFree_one rfl) memNil) rfl rfl rfl rfl rfl rfl ?_
      refine s_fieldAddr rfl rfl fd39_4 rfl rfl rfl rfl ?_
      refine s_store (rows' := [[.sc (.string x1.name), .sc (.int .i64 x1.ty), .sc (.int .i64 x1.ttl), .sc (.int .i64 x1.n), .sc (.string x24), .sc (.string x1.text)]]) rfl rfl rfl rfl ty9 rfl rfl rfl rfl rfl rfl ?_
      refine rt_nil ?_
      refine tri_sr ?_
      refine s_loadR rfl rfl rfl rfl ty39 rfl rfl rfl ?_
      refine s_storeB rfl rfl rfl ty39 rfl rfl rfl rfl rfl ?_
      refine rt_nil ?_
      refine tri_ret ?_
      have e0 := (some2 h).1; have e1 := (some2 h).2; subst e0; subst e1
      exact endY [((1000, 0), ⟨136, 3, [[.lst 1 (List.map byteV x25.b), .sc (.int .i64 x25.i), .sc (.int .i64 x25.h)]], false, false⟩, some (1000, 0))] [] (rvC (resCell rfl rfl ty39) rvN) ⟨⟨rfl, _, rfl, rfl, rfl, rfl, id, rowsCv_one (.cons (.free rfl) (.cons (.free rfl) (.cons (.free rfl) .nil))), rowsZ_one rfl⟩, trivial⟩ trivial rfl rfl (by kernel_rfl) rfl (cvAgg rfl)
     ·replace h := cond_f h c23
      refine tri_sr ?_
      refine s_of (st_eqI rfl rfl rfl) rfl rfl rfl rfl ?_
      refine m2 ?_
      refine rt_nil ?_
      refine tri_cond rfl (fun c27 => ?_) (fun c27 => ?_)
      ·replace h := cond_t h c27
       refine tri_region ?_
       refine m1 ?_
       refine s_buildSlice (rows' := List.map strV [(⟨#[32]⟩ : ByteArray), (⟨#[127]⟩ : ByteArray), (⟨#[116, 104, 105, 114, 116, 101, 101, 110, 98, 121, 116, 101, 115]⟩ : ByteArray), (⟨#[120]⟩ : ByteArray)]) rfl rfl rfl sl33 zc9 rfl rfl rfl rfl rfl rfl rfl rfl rfl ?_
       refine bnd2_elim h fun x28 x29 q30 h => ?_
       refine s_callZ (kb := [(39, 0)]) (ns := [(1000, 0)]) (v := .sc (.string x28)) rfl rfl cl118 (ws_l1Str x5 ([(⟨#[32]⟩ : ByteArray), (⟨#[127]⟩ : ByteArray), (⟨#[116, 104, 105, 114, 116, 101, 101, 110, 98, 121, 116, 101, 115]⟩ : ByteArray), (⟨#[120]⟩ : ByteArray)]) x28 x29 q30) rfl (.cons (.ptrOwn rfl) (.cons (lendL rfl (.head _) rfl strV_free strV_len) .nil)) ⟨⟨_, rfl, rfl⟩, trivial⟩ (memCons (allFree_one rfl) memNil) (List.nodup_cons.2 ⟨List.not_mem_nil, .nil⟩) (by decide) ⟨⟨_, rfl, rfl⟩, trivial⟩ rfl trivial (memCons (allFree_one rfl) memNil) rfl rfl rfl rfl rfl rfl ?_
       refine s_fieldAddr rfl rfl fd39_5 rfl rfl rfl rfl ?_
       refine s_store (rows' := [[.sc (.string x1.name), .sc (.int .i64 x1.ty), .sc (.int .i64 x1.ttl), .sc (.int .i64 x1.n), .sc (.string x1.host), .sc (.string x28)]]) rfl rfl rfl rfl ty9 rfl rfl rfl rfl rfl rfl ?_
       refine rt_nil ?_
       refine tri_sr ?_
       refine s_loadR rfl rfl rfl rfl ty39 rfl rfl rfl ?_
       refine s_storeB rfl rfl rfl ty39 rfl rfl rfl rfl rfl ?_
       refine rt_nil ?_
       refine tri_ret ?_
       have e0 := (some2 h).1; have e1 := (some2 h).2; subst e0; subst e1
       exact endY [((1000, 0), ⟨136, 3, [[.lst 1 (List.map byteV x29.b), .sc (.int .i64 x29.i), .sc (.int .i64 x29.h)]], false, false⟩, some (1000, 0))] [] (rvC (resCell rfl rfl ty39) rvN) ⟨⟨rfl, _, rfl, rfl, rfl, rfl, id, rowsCv_one (.cons (.free rfl) (.cons (.free rfl) (.cons (.free rfl) .nil))), rowsZ_one rfl⟩, trivial⟩ trivial rfl rfl (by kernel_rfl) rfl (cvAgg rfl)
      ·replace h := cond_f h c27
       refine tri_skip ?_
       refine tri_sr ?_
       refine s_loadR rfl rfl rfl rfl ty39 rfl rfl rfl ?_
       refine s_storeB rfl rfl rfl ty39 rfl rfl rfl rfl rfl ?_
       refine rt_nil ?_
       refine tri_ret ?_
       have e0 := (some2 h).1; have e1 := (some2 h).2; subst e0; subst e1
       exact endY [((1000, 0), ⟨136, 3, [[.lst 1 (List.map byteV x5.b), .sc (.int .i64 x5.i), .sc (.int .i64 x5.h)]], false, false⟩, some (1000, 0))] [] (rvC (resCell rfl rfl ty39) rvN) ⟨⟨rfl, _, rfl, rfl, rfl, rfl, id, rowsCv_one (.cons (.free rfl) (.cons (.free rfl) (.cons (.free rfl) .nil))), rowsZ_one rfl⟩, trivial⟩ trivial rfl rfl (by kernel_rfl) rfl (cvAgg rfl)

/- spec.l7Any -/
def inv_s_l7Any_0 (x1 : MMsg) (v0_0 : List Int) (v0_1 : Int) (v0_2 : Int) (v0_3 : List Rec) : St := mkT 56 [(0, .ptr (1000, 0) 0 0), (2, .ptr (2, 0) 0 0), (3, .ptr (3, 0) 0 0)] [((1000, 0), some ⟨136, 3, [[.lst 1 (List.map byteV v0_0), .sc (.int .i64 v0_1), .sc (.int .i64 v0_2)]], false, false⟩), ((2, 0), some ⟨50, 12, [[.sc (.int .i64 0), .sc (.bool false), .sc (.bool false), .sc (.bool false), .sc (.bool false), .sc (.bool false), .sc (.int .i64 0), .sc (.string (⟨#[]⟩ : ByteArray)), .sc (.int .i64 0), .nils, .nils, .nils]], false, true⟩), ((3, 0), some ⟨50, 12, [[.sc (.int .i64 x1.id), .sc (.bool x1.reply), .sc (.bool x1.auth), .sc (.bool x1.cut), .sc (.bool x1.want), .sc (.bool x1.can), .sc (.int .i64 x1.code), .sc (.string x1.q.name), .sc (.int .i64 x1.q.ty), .ref (5, 9) 0 x1.an.length, .ref (5, 10) 0 x1.au.length, .ref (2003, 12) 0 v0_3.length]], false, true⟩), ((5, 9), some ⟨39, 6, List.map recV x1.an, false, true⟩), ((5, 10), some ⟨39, 6, List.map recV x1.au, false, true⟩), ((2003, 12), some ⟨39, 6, List.map recV v0_3, false, true⟩)]
set_option maxRecDepth 4000 in
set_option maxHeartbeats 800000 in
theorem ws_l7Any (p0 : Cur) (r0 : MMsg) (r1 : Cur) (h : s_l7Any p0 = some (r0, r1)) : Runs Tryd.prog 181 [.ptr (1000, 0) 0 0] [⟨136, 3, [[.lst 1 (List.map byteV p0.b), .sc (.int .i64 p0.i), .sc (.int .i64 p0.h)]], false, false⟩] (.agg [.sc (.int .i64 r0.id), .sc (.bool r0.reply), .sc (.bool r0.auth), .sc (.bool r0.cut), .sc (.bool r0.want), .sc (.bool r0.can), .sc (.int .i64 r0.code), .sc (.string r0.q.name), .sc (.int .i64 r0.q.ty), .own 39 6 (List.map recV r0.an), .own 39 6 (List.map recV r0.au), .own 39 6 (List.map recV r0.ad)]) [⟨136, 3, [[.lst 1 (List.map byteV r1.b), .sc (.int .i64 r1.i), .sc (.int .i64 r1.h)]], false, false⟩] := by
 unfold s_l7Any at h
 refine runsR [.cell 2 50] Tryd.func181 rfl rfl rfl rfl ?_
 rw [Tryd.ntmps181]
 refine tri_sr ?_
 refine s_alloc rfl rfl rfl zc50 rfl rfl rfl rfl rfl ?_
 refine rt_nil ?_
 refine tri_sr ?_
 refine m1 ?_
 refine bnd2_elim h fun x1 x2 q3 h => ?_
 refine s_callZ (kb := []) (ns := [(1000, 0)]) (v := .agg [.sc (.int .i64 x1.id), .sc (.bool x1.reply), .sc (.bool x1.auth), .sc (.bool x1.cut), .sc (.bool x1.want), .sc (.bool x1.can), .sc (.int .i64 x1.code), .sc (.string x1.q.name), .sc (.int .i64 x1.q.ty), .ref (5, 9) 0 x1.an.length, .ref (5, 10) 0 x1.au.length, .ref (5, 11) 0 x1.ad.length]) rfl rfl cl204 (ws_l7Draw p0 x1 x2 q3) rfl (.cons (.ptrOwn rfl) .nil) ⟨⟨_, rfl, rfl⟩, trivial⟩ (memCons (allFree_one rfl) memNil) (List.nodup_cons.2 ⟨List.not_mem_nil, .nil⟩) memNil trivial rfl ⟨(allFree_map recV_free), ⟨(allFree_map recV_free), ⟨(allFree_map recV_free), trivial⟩⟩⟩ (memCons (allFree_one rfl) memNil) rfl (by simp only [V.mat, V.mat1, V.mat0, matL, matT, List.length_map] <;> rfl) rfl rfl rfl rfl ?_
 refine s_alloc rfl rfl rfl zc50 rfl rfl rfl rfl rfl ?_
 refine s_storeB rfl rfl rfl ty50 rfl rfl rfl rfl rfl ?_
 refine rt_nil ?_
 refine tri_seq ?_
 refine tri_sr ?_
 refine m1 ?_
 refine bnd2_elim h fun x4 x5 q6 h => ?_
 refine s_callZ (kb := []) (ns := [(1000, 0)]) (v := .sc (.int .i64 x4)) rfl rfl cl116 (ws_l1Below x2 12 x4 x5 q6) rfl (.cons (.ptrOwn rfl) (.cons (.free rfl) .nil)) ⟨⟨_, rfl, rfl⟩, trivial⟩ (memCons (allFree_one rfl) memNil) (List.nodup_cons.2 ⟨List.not_mem_nil, .nil⟩) memNil trivial rfl trivial (memCons (allFree_one rfl) memNil) rfl rfl rfl rfl rfl rfl ?_
 refine rt_nil ?_
 refine tri_block ?_
 refine tri_sr ?_
 refine s_of (st_eqI rfl rfl rfl) rfl rfl rfl rfl ?_
 refine m2 ?_
 refine rt_nil ?_
 refine tri_cond rfl (fun c7 => ?_) (fun c7 => ?_)
 ·replace h := cond_t h c7
  refine tri_region ?_
  refine m1 ?_
  refine s_buildSlice (rows' := List.map intV [(-1), 65535, 65536]) rfl rfl rfl sl76 zc3 rfl rfl rfl rfl rfl rfl rfl rfl rfl ?_
  refine bnd2_elim h fun x8 x9 q10 h => ?_
  refine s_callZ (kb := [(11, 0)]) (ns := [(1000, 0)]) (v := .sc (.int .i64 x8)) rfl rfl cl140 (ws_l1Int x5 [(-1), 65535, 65536] x8 x9 q10) rfl (.cons (.ptrOwn rfl) (.cons (lendL rfl (.head _) rfl intV_free intV_len) .nil)) ⟨⟨_, rfl, rfl⟩, trivial⟩ (memCons (allFree_one rfl) memNil) (List.nodup_cons.2 ⟨List.not_mem_nil, .nil⟩) (by decide) ⟨⟨_, rfl, rfl⟩, trivial⟩ rfl trivial (memCons (allFree_one rfl) memNil) rfl rfl rfl rfl rfl rfl ?_
  refine s_fieldAddr rfl rfl fd50_0 rfl rfl rfl rfl ?_
  refine s_store (rows' := [[.sc (.int .i64 x8), .sc (.bool x1.reply), .sc (.bool x1.auth), .sc (.bool x1.cut), .sc (.bool x1.want), .sc (.bool x1.can), .sc (.int .i64 x1.code), .sc (.string x1.q.name), .sc (.int .i64 x1.q.ty), .ref (5, 9) 0 x1.an.length, .ref (5, 10) 0 x1.au.length, .ref (5, 11) 0 x1.ad.length]]) rfl rfl rfl rfl ty3 rfl rfl rfl rfl rfl rfl ?_
  refine rt_nil ?_
  refine tri_sr ?_
  refine s_loadR rfl rfl rfl rfl ty50 rfl rfl rfl ?_
  refine s_storeB rfl rfl rfl ty50 rfl rfl rfl rfl rfl ?_
  refine rt_nil ?_
  refine tri_ret ?_
  have e0 := (some2 h).1; have e1 := (some2 h).2; subst e0; subst e1
  exact endY (v' := .agg [.sc (.int .i64 x8), .sc (.bool x1.reply), .sc (.bool x1.auth), .sc (.bool x1.cut), .sc (.bool x1.want), .sc (.bool x1.can), .sc (.int .i64 x1.code), .sc (.string x1.q.name), .sc (.int .i64 x1.q.ty), .ref (2000, 9) 0 x1.an.length, .ref (2000, 10) 0 x1.au.length, .ref (2000, 11) 0 x1.ad.length]) [((2000, 9), ⟨39, 6, List.map recV x1.an, false, true⟩, some (5, 9)), ((2000, 10), ⟨39, 6, List.map recV x1.au, false, true⟩, some (5, 10)), ((2000, 11), ⟨39, 6, List.map recV x1.ad, false, true⟩, some (5, 11)), ((1000, 0), ⟨136, 3, [[.lst 1 (List.map byteV x9.b), .sc (.int .i64 x9.i), .sc (.int .i64 x9.h)]], false, false⟩, some (1000, 0))] [] (rvC (resCell rfl rfl ty50) rvN) ⟨⟨rfl, _, rfl, rfl, rfl, rfl, id, rowsCv_eq rfl (allFree_map recV_free), rowsZ_map recV_len⟩, ⟨rfl, _, rfl, rfl, rfl, rfl, id, rowsCv_eq rfl (allFree_map recV_free), rowsZ_map recV_len⟩, ⟨rfl, _, rfl, rfl, rfl, rfl, id, rowsCv_eq rfl (allFree_map recV_free), rowsZ_map recV_len⟩, ⟨rfl, _, rfl, rfl, rfl, rfl, id, rowsCv_one (.cons (.free rfl) (.cons (.free rfl) (.cons (.free rfl) .nil))), rowsZ_one rfl⟩, trivial⟩ trivial rfl rfl (by kernel_rfl) (by simp only [V.mat, V.mat1, V.mat0, matL, matT, List.length_map] <;> rfl) (CvL.agg (.cons (.free rfl) (.cons (.free rfl) (.cons (.free rfl) (.cons (.free rfl) (.cons (.free rfl) (.cons (.free rfl) (.cons (.free rfl) (.cons (.free rfl) (.cons (.free rfl) (.cons (.ref rfl) (.cons (.ref rfl) (.cons (.ref rfl) .nil)))))))))))))
 ·replace h := cond_f h c7
  refine tri_sr ?_
  refine s_of (st_eqI rfl rfl rfl) rfl rfl rfl rfl ?_
  refine m2 ?_
  refine rt_nil ?_
  refine tri_cond rfl (fun c11 => ?_) (fun c11 => ?_)
  ·replace h := cond_t h c11
   refine tri_region ?_
   refine m1 ?_
   refine s_buildSlice (rows' := List.map intV [(-1), 15, 16]) rfl rfl rfl sl76 zc3 rfl rfl rfl rfl rfl rfl rfl rfl rfl ?_
   refine bnd2_elim h fun x12 x13 q14 h => ?_
   refine s_callZ (kb := [(17, 0)]) (ns := [(1000, 0)]) (v := .sc (.int .i64 x12)) rfl rfl cl140 (ws_l1Int x5 [(-1), 15, 16] x12 x13 q14) rfl (.cons (.ptrOwn rfl) (.cons (lendL rfl (.head _) rfl intV_free intV_len) .nil)) ⟨⟨_, rfl, rfl⟩, trivial⟩ (memCons (allFree_one rfl) memNil) (List.nodup_cons.2 ⟨List.not_mem_nil, .nil⟩) (by decide) ⟨⟨_, rfl, rfl⟩, trivial⟩ rfl trivial (memCons (allFree_one rfl) memNil) rfl rfl rfl rfl rfl rfl ?_
   refine s_fieldAddr rfl rfl fd50_6 rfl rfl rfl rfl ?_
   refine s_store (rows' := [[.sc (.int .i64 x1.id), .sc (.bool x1.reply), .sc (.bool x1.auth), .sc (.bool x1.cut), .sc (.bool x1.want), .sc (.bool x1.can), .sc (.int .i64 x12), .sc (.string x1.q.name), .sc (.int .i64 x1.q.ty), .ref (5, 9) 0 x1.an.length, .ref (5, 10) 0 x1.au.length, .ref (5, 11) 0 x1.ad.length]]) rfl rfl rfl rfl ty3 rfl rfl rfl rfl rfl rfl ?_
   refine rt_nil ?_
   refine tri_sr ?_
   refine s_loadR rfl rfl rfl rfl ty50 rfl rfl rfl ?_
   refine s_storeB rfl rfl rfl ty50 rfl rfl rfl rfl rfl ?_
   refine rt_nil ?_
   refine tri_ret ?_
   have e0 := (some2 h).1; have e1 := (some2 h).2; subst e0; subst e1
   exact endY (v' := .agg [.sc (.int .i64 x1.id), .sc (.bool x1.reply), .sc (.bool x1.auth), .sc (.bool x1.cut), .sc (.bool x1.want), .sc (.bool x1.can), .sc (.int .i64 x12), .sc (.string x1.q.name), .sc (.int .i64 x1.q.ty), .ref (2000, 9) 0 x1.an.length, .ref (2000, 10) 0 x1.au.length, .ref (2000, 11) 0 x1.ad.length]) [((2000, 9), ⟨39, 6, List.map recV x1.an, false, true⟩, some (5, 9)), ((2000, 10), ⟨39, 6, List.map recV x1.au, false, true⟩, some (5, 10)), ((2000, 11), ⟨39, 6, List.map recV x1.ad, false, true⟩, some (5, 11)), ((1000, 0), ⟨136, 3, [[.lst 1 (List.map byteV x13.b), .sc (.int .i64 x13.i), .sc (.int .i64 x13.h)]], false, false⟩, some (1000, 0))] [] (rvC (resCell rfl rfl ty50) rvN) ⟨⟨rfl, _, rfl, rfl, rfl, rfl, id, rowsCv_eq rfl (allFree_map recV_free), rowsZ_map recV_len⟩, ⟨rfl, _, rfl, rfl, rfl, rfl, id, rowsCv_eq rfl (allFree_map recV_free), rowsZ_map recV_len⟩, ⟨rfl, _, rfl, rfl, rfl, rfl, id, rowsCv_eq rfl (allFree_map recV_free), rowsZ_map recV_len⟩, ⟨rfl, _, rfl, rfl, rfl, rfl, id, rowsCv_one (.cons (.free rfl) (.cons (.free rfl) (.cons (.free rfl) .nil))), rowsZ_one rfl⟩, trivial⟩ trivial rfl rfl (by kernel_rfl) (by simp only [V.mat, V.mat1, V.mat0, matL, matT, List.length_map] <;> rfl) (CvL.agg (.cons (.free rfl) (.cons (.free rfl) (.cons (.free rfl) (.cons (.free rfl) (.cons (.free rfl) (.cons (.free rfl) (.cons (.free rfl) (.cons (.free rfl) (.cons (.free rfl) (.cons (.ref rfl) (.cons (.ref rfl) (.cons (.ref rfl) .nil)))))))))))))
  ·replace h := cond_f h c11
   refine tri_sr ?_
   refine s_of (st_eqI rfl rfl rfl) rfl rfl rfl rfl ?_
   refine m2 ?_
   refine rt_nil ?_
   refine tri_cond rfl (fun c15 => ?_) (fun c15 => ?_)
   ·replace h := cond_t h c15
    refine tri_region ?_
    refine m1 ?_
    refine bnd2_elim h fun x16 x17 q18 h => ?_
    refine s_callZ (kb := []) (ns := [(1000, 0)]) (v := .sc (.string x16)) rfl rfl cl205 (ws_l3Any x5 x16 x17 q18) rfl (.cons (.ptrOwn rfl) .nil) ⟨⟨_, rfl, rfl⟩, trivial⟩ (memCons (allFree_one rfl) memNil) (List.nodup_cons.2 ⟨List.not_mem_nil, .nil⟩) memNil trivial rfl trivial (memCons (allFree_one rfl) memNil) rfl rfl rfl rfl rfl rfl ?_
    refine s_fieldAddr rfl rfl fd50_7 rfl rfl rfl rfl ?_
    refine s_fieldAddr rfl rfl fd28_0 rfl rfl rfl rfl ?_
    refine s_store (rows' := [[.sc (.int .i64 x1.id), .sc (.bool x1.reply), .sc (.bool x1.auth), .sc (.bool x1.cut), .sc (.bool x1.want), .sc (.bool x1.can), .sc (.int .i64 x1.code), .sc (.string x16), .sc (.int .i64 x1.q.ty), .ref (5, 9) 0 x1.an.length, .ref (5, 10) 0 x1.au.length, .ref (5, 11) 0 x1.ad.length]]) rfl rfl rfl rfl ty9 rfl rfl rfl rfl rfl rfl ?_
    refine rt_nil ?_
    refine tri_sr ?_
    refine s_loadR rfl rfl rfl rfl ty50 rfl rfl rfl ?_
    refine s_storeB rfl rfl rfl ty50 rfl rfl rfl rfl rfl ?_
    refine rt_nil ?_
    refine tri_ret ?_
    have e0 := (some2 h).1; have e1 := (some2 h).2; subst e0; subst e1
    exact endY (v' := .agg [.sc (.int .i64 x1.id), .sc (.bool x1.reply), .sc (.bool x1.auth), .sc (.bool x1.cut), .sc (.bool x1.want), .sc (.bool x1.can), .sc (.int .i64 x1.code), .sc (.string x16), .sc (.int .i64 x1.q.ty), .ref (2000, 9) 0 x1.an.length, .ref (2000, 10) 0 x1.au.length, .ref (2000, 11) 0 x1.ad.length]) [((2000, 9), ⟨39, 6, List.map recV x1.an, false, true⟩, some (5, 9)), ((2000, 10), ⟨39, 6, List.map recV x1.au, false, true⟩, some (5, 10)), ((2000, 11), ⟨39, 6, List.map recV x1.ad, false, true⟩, some (5, 11)), ((1000, 0), ⟨136, 3, [[.lst 1 (List.map byteV x17.b), .sc (.int .i64 x17.i), .sc (.int .i64 x17.h)]], false, false⟩, some (1000, 0))] [] (rvC (resCell rfl rfl ty50) rvN) ⟨⟨rfl, _, rfl, rfl, rfl, rfl, id, rowsCv_eq rfl (allFree_map recV_free), rowsZ_map recV_len⟩, ⟨rfl, _, rfl, rfl, rfl, rfl, id, rowsCv_eq rfl (allFree_map recV_free), rowsZ_map recV_len⟩, ⟨rfl, _, rfl, rfl, rfl, rfl, id, rowsCv_eq rfl (allFree_map recV_free), rowsZ_map recV_len⟩, ⟨rfl, _, rfl, rfl, rfl, rfl, id, rowsCv_one (.cons (.free rfl) (.cons (.free rfl) (.cons (.free rfl) .nil))), rowsZ_one rfl⟩, trivial⟩ trivial rfl rfl (by kernel_rfl) (by simp only [V.mat, V.mat1, V.mat0, matL, matT, List.length_map] <;> rfl) (CvL.agg (.cons (.free rfl) (.cons (.free rfl) (.cons (.free rfl) (.cons (.free rfl) (.cons (.free rfl) (.cons (.free rfl) (.cons (.free rfl) (.cons (.free rfl) (.cons (.free rfl) (.cons (.ref rfl) (.cons (.ref rfl) (.cons (.ref rfl) .nil)))))))))))))
   ·replace h := cond_f h c15
    refine tri_sr ?_
    refine s_of (st_eqI rfl rfl rfl) rfl rfl rfl rfl ?_
    refine m2 ?_
    refine rt_nil ?_
    refine tri_cond rfl (fun c19 => ?_) (fun c19 => ?_)
    ·replace h := cond_t h c19
     refine tri_region ?_
     refine m1 ?_
     refine s_buildSlice (rows' := List.map intV [0, 3, 255]) rfl rfl rfl sl76 zc3 rfl rfl rfl rfl rfl rfl rfl rfl rfl ?_
     refine bnd2_elim h fun x20 x21 q22 h => ?_
     refine s_callZ (kb := [(29, 0)]) (ns := [(1000, 0)]) (v := .sc (.int .i64 x20)) rfl rfl cl140 (ws_l1Int x5 [0, 3, 255] x20 x21 q22) rfl (.cons (.ptrOwn rfl) (.cons (lendL rfl (.head _) rfl intV_free intV_len) .nil)) ⟨⟨_, rfl, rfl⟩, trivial⟩ (memCons (allFree_one rfl) memNil) (List.nodup_cons.2 ⟨List.not_mem_nil, .nil⟩) (by decide) ⟨⟨_, rfl, rfl⟩, trivial⟩ rfl trivial (memCons (allFree_one rfl) memNil) rfl rfl rfl rfl rfl rfl ?_
     refine s_fieldAddr rfl rfl fd50_7 rfl rfl rfl rfl ?_
     refine s_fieldAddr rfl rfl fd28_1 rfl rfl rfl rfl ?_
     refine s_store (rows' := [[.sc (.int .i64 x1.id), .sc (.bool x1.reply), .sc (.bool x1.auth), .sc (.bool x1.cut), .sc (.bool x1.want), .sc (.bool x1.can), .sc (.int .i64 x1.code), .sc (.string x1.q.name), .sc (.int .i64 x20), .ref (5, 9) 0 x1.an.length, .ref (5, 10) 0 x1.au.length, .ref (5, 11) 0 x1.ad.length]]) rfl rfl rfl rfl ty3 rfl rfl rfl rfl rfl rfl ?_
     refine rt_nil ?_
     refine tri_sr ?_
     refine s_loadR rfl rfl rfl rfl ty50 rfl rfl rfl ?_
     refine s_storeB rfl rfl rfl ty50 rfl rfl rfl rfl rfl ?_
     refine rt_nil ?_
     refine tri_ret ?_
     have e0 := (some2 h).1; have e1 := (some2 h).2; subst e0; subst e1
     exact endY (v' := .agg [.sc (.int .i64 x1.id), .sc (.bool x1.reply), .sc (.bool x1.auth), .sc (.bool x1.cut), .sc (.bool x1.want), .sc (.bool x1.can), .sc (.int .i64 x1.code), .sc (.string x1.q.name), .sc (.int .i64 x20), .ref (2000, 9) 0 x1.an.length, .ref (2000, 10) 0 x1.au.length, .ref (2000, 11) 0 x1.ad.length]) [((2000, 9), ⟨39, 6, List.map recV x1.an, false, true⟩, some (5, 9)), ((2000, 10), ⟨39, 6, List.map recV x1.au, false, true⟩, some (5, 10)), ((2000, 11), ⟨39, 6, List.map recV x1.ad, false, true⟩, some (5, 11)), ((1000, 0), ⟨136, 3, [[.lst 1 (List.map byteV x21.b), .sc (.int .i64 x21.i), .sc (.int .i64 x21.h)]], false, false⟩, some (1000, 0))] [] (rvC (resCell rfl rfl ty50) rvN) ⟨⟨rfl, _, rfl, rfl, rfl, rfl, id, rowsCv_eq rfl (allFree_map recV_free), rowsZ_map recV_len⟩, ⟨rfl, _, rfl, rfl, rfl, rfl, id, rowsCv_eq rfl (allFree_map recV_free), rowsZ_map recV_len⟩, ⟨rfl, _, rfl, rfl, rfl, rfl, id, rowsCv_eq rfl (allFree_map recV_free), rowsZ_map recV_len⟩, ⟨rfl, _, rfl, rfl, rfl, rfl, id, rowsCv_one (.cons (.free rfl) (.cons (.free rfl) (.cons (.free rfl) .nil))), rowsZ_one rfl⟩, trivial⟩ trivial rfl rfl (by kernel_rfl) (by simp only [V.mat, V.mat1, V.mat0, matL, matT, List.length_map] <;> rfl) (CvL.agg (.cons (.free rfl) (.cons (.free rfl) (.cons (.free rfl) (.cons (.free rfl) (.cons (.free rfl) (.cons (.free rfl) (.cons (.free rfl) (.cons (.free rfl) (.cons (.free rfl) (.cons (.ref rfl) (.cons (.ref rfl) (.cons (.ref rfl) .nil)))))))))))))
    ·replace h := cond_f h c19
     refine tri_sr ?_
     refine s_of (st_eqI rfl rfl rfl) rfl rfl rfl rfl ?_
     refine m2 ?_
     refine rt_nil ?_
     refine tri_cond rfl (fun c23 => ?_) (fun c23 => ?_)
     ·replace h := cond_t h c23
      refine tri_draw mixed ?_
      refine s_fieldAddr rfl rfl fd50_8 rfl rfl rfl rfl ?_
      refine s_load rfl rfl rfl rfl ty24 rfl (.inr rfl) (by conv => lhs; whnf) rfl rfl rfl ?_
      refine m1 ?_
      refine bnd2_elim h fun x24 x25 q26 h => ?_
      refine s_callZ (kb := []) (ns := [(1000, 0)]) (v := .agg (recV x24)) rfl rfl cl206 (ws_l5Any x5 x24 x25 q26) rfl (.cons (.ptrOwn rfl) .nil) ⟨⟨_, rfl, rfl⟩, trivial⟩ (memCons (allFree_one rfl) memNil) (List.nodup_cons.2 ⟨List.not_mem_nil, .nil⟩) memNil trivial rfl trivial (memCons (allFree_one rfl) memNil) rfl rfl rfl rfl rfl rfl ?_
      refine s_buildSlice (rows' := List.map recV [x24]) rfl rfl rfl sl24 zc39 rfl rfl rfl rfl rfl rfl rfl rfl rfl ?_
      refine grd_elim h fun g27 h => ?_
      refine s_appL rfl rfl rfl sl24 zc39 rfl rfl rfl rfl rfl rfl (src_refL rfl rfl) g27 rfl rfl ?_
      refine s_fieldAddr rfl rfl fd50_8 rfl rfl rfl rfl ?_
      refine s_store (rows' := [[.sc (.int .i64 x1.id), .sc (.bool x1.reply), .sc (.bool x1.auth), .sc (.bool x1.cut), .sc (.bool x1.want), .sc (.bool x1.can), .sc (.int .i64 x1.code), .sc (.string x1.q.name), .sc (.int .i64 x1.q.ty), .ref (40, 0) 0 ((x1.an ++ [x24]).length), .ref (5, 10) 0 x1.au.length, .ref (5, 11) 0 x1.ad.length]]) rfl rfl rfl rfl ty24 rfl rfl rfl rfl rfl rfl ?_
      refine rt_nil ⟨by kernel_rfl, ?_⟩
      refine tri_sr ?_
      refine s_loadR rfl rfl rfl rfl ty50 rfl rfl rfl ?_
      refine s_storeB rfl rfl rfl ty50 rfl rfl rfl rfl rfl ?_
      refine rt_nil ?_
      refine tri_ret ?_
      have e0 := (some2 h).1; have e1 := (some2 h).2; subst e0; subst e1
      exact endY (v' := .agg [.sc (.int .i64 x1.id), .sc (.bool x1.reply), .sc (.bool x1.auth), .sc (.bool x1.cut), .sc (.bool x1.want), .sc (.bool x1.can), .sc (.int .i64 x1.code), .sc (.string x1.q.name), .sc (.int .i64 x1.q.ty), .ref (2000, 9) 0 ((x1.an ++ [x24]).length), .ref (2000, 10) 0 x1.au.length, .ref (2000, 11) 0 x1.ad.length]) [((2000, 9), ⟨39, 6, List.map recV (x1.an ++ [x24]), false, true⟩, some (40, 0)), ((2000, 10), ⟨39, 6, List.map recV x1.au, false, true⟩, some (5, 10)), ((2000, 11), ⟨39, 6, List.map recV x1.ad, false, true⟩, some (5, 11)), ((1000, 0), ⟨136, 3, [[.lst 1 (List.map byteV x25.b), .sc (.int .i64 x25.i), .sc (.int .i64 x25.h)]], false, false⟩, some (1000, 0))] [] (rvC (resCell rfl rfl ty50) rvN) ⟨⟨rfl, _, rfl, rfl, rfl, rfl, id, rowsCv_eq rfl (allFree_map recV_free), rowsZ_map recV_len⟩, ⟨rfl, _, rfl, rfl, rfl, rfl, id, rowsCv_eq rfl (allFree_map recV_free), rowsZ_map recV_len⟩, ⟨rfl, _, rfl, rfl, rfl, rfl, id, rowsCv_eq rfl (allFree_map recV_free), rowsZ_map recV_len⟩, ⟨rfl, _, rfl, rfl, rfl, rfl, id, rowsCv_one (.cons (.free rfl) (.cons (.free rfl) (.cons (.free rfl) .nil))), rowsZ_one rfl⟩, trivial⟩ trivial rfl rfl (by kernel_rfl) (by simp only [V.mat, V.mat1, V.mat0, matL, matT, List.length_map] <;> rfl) (CvL.agg (.cons (.free rfl) (.cons (.free rfl) (.cons (.free rfl) (.cons (.free rfl) (.cons (.free rfl) (.cons (.free rfl) (.cons (.free rfl) (.cons (.free rfl) (.cons (.free rfl) (.cons (.ref rfl) (.cons (.ref rfl) (.cons (.ref rfl) .nil)))))))))))))
     ·replace h := cond_f h c23
      refine tri_sr ?_
      refine s_of (st_eqI rfl rfl rfl) rfl rfl rfl rfl ?_
      refine m2 ?_
      refine rt_nil ?_
      refine tri_cond rfl (fun c28 => ?_) (fun c28 => ?_)
      ·replace h := cond_t h c28
       refine tri_block ?_
       refine tri_loop (ι := { p : Nat × (List Int) × Int × Int × (List Rec) // s_l7Any_l0 x1 p.1 p.2.1 p.2.2.1 p.2.2.2.1 p.2.2.2.2 = some (r0, r1) }) (fun p => inv_s_l7Any_0 x1 p.1.2.1 p.1.2.2.1 p.1.2.2.2.1 p.1.2.2.2.2) (fun p => p.1.1) ⟨(fuel0, x5.b, x5.i, x5.h, x1.ad), h⟩ ?_ ?_
       ·skip
        refine entX [((1000, 0), ⟨136, 3, [[.lst 1 (List.map byteV x5.b), .sc (.int .i64 x5.i), .sc (.int .i64 x5.h)]], false, false⟩, some (1000, 0)), ((2, 0), ⟨50, 12, [[.sc (.int .i64 0), .sc (.bool false), .sc (.bool false), .sc (.bool false), .sc (.bool false), .sc (.bool false), .sc (.int .i64 0), .sc (.string (⟨#[]⟩ : ByteArray)), .sc (.int .i64 0), .nils, .nils, .nils]], false, true⟩, some (2, 0)), ((3, 0), ⟨50, 12, [[.sc (.int .i64 x1.id), .sc (.bool x1.reply), .sc (.bool x1.auth), .sc (.bool x1.cut), .sc (.bool x1.want), .sc (.bool x1.can), .sc (.int .i64 x1.code), .sc (.string x1.q.name), .sc (.int .i64 x1.q.ty), .ref (5, 9) 0 x1.an.length, .ref (5, 10) 0 x1.au.length, .ref (2003, 12) 0 x1.ad.length]], false, true⟩, some (3, 0)), ((5, 9), ⟨39, 6, List.map recV x1.an, false, true⟩, some (5, 9)), ((5, 10), ⟨39, 6, List.map recV x1.au, false, true⟩, some (5, 10)), ((2003, 12), ⟨39, 6, List.map recV x1.ad, false, true⟩, some (5, 11))] [] ⟨⟨rfl, _, rfl, rfl, rfl, rfl, id, rowsCv_one (.cons (.free rfl) (.cons (.free rfl) (.cons (.free rfl) .nil))), rowsZ_one rfl⟩, ⟨rfl, _, rfl, rfl, rfl, rfl, id, rowsCv_one (.cons (.free rfl) (.cons (.free rfl) (.cons (.free rfl) (.cons (.free rfl) (.cons (.free rfl) (.cons (.free rfl) (.cons (.free rfl) (.cons (.free rfl) (.cons (.free rfl) (.cons (.free rfl) (.cons (.free rfl) (.cons (.free rfl) .nil)))))))))))), rowsZ_one rfl⟩, ⟨rfl, _, rfl, rfl, rfl, rfl, id, rowsCv_one (.cons (.free rfl) (.cons (.free rfl) (.cons (.free rfl) (.cons (.free rfl) (.cons (.free rfl) (.cons (.free rfl) (.cons (.free rfl) (.cons (.free rfl) (.cons (.free rfl) (.cons (.ref rfl) (.cons (.ref rfl) (.cons (.ref rfl) .nil)))))))))))), rowsZ_one rfl⟩, ⟨rfl, _, rfl, rfl, rfl, rfl, id, rowsCv_eq rfl (allFree_map recV_free), rowsZ_map recV_len⟩, ⟨rfl, _, rfl, rfl, rfl, rfl, id, rowsCv_eq rfl (allFree_map recV_free), rowsZ_map recV_len⟩, ⟨rfl, _, rfl, rfl, rfl, rfl, id, rowsCv_eq rfl (allFree_map recV_free), rowsZ_map recV_len⟩, trivial⟩ trivial rfl rfl ?_
        exact ⟨(.ptr rfl), (.ptr rfl), (.ptr rfl), trivial⟩
       ·rintro ⟨⟨f0, v0_0, v0_1, v0_2, v0_3⟩, h⟩
        replace h : s_l7Any_l0 x1 f0 v0_0 v0_1 v0_2 v0_3 = some (r0, r1) := h
        cases f0 with
        | zero => cases h
        | succ f0 =>
        rw [s_l7Any_l0] at h
        show Tri _ _ _ (inv_s_l7Any_0 x1 v0_0 v0_1 v0_2 v0_3)
        refine tri_seq ?_
        refine tri_sr ?_
        refine s_fieldAddr rfl rfl fd50_10 rfl rfl rfl rfl ?_
        refine s_load rfl rfl rfl rfl ty24 rfl (.inr rfl) (by conv => lhs; whnf) rfl rfl rfl ?_
        refine s_len (m := v0_3.length) rfl sl24 rfl rfl rfl rfl ?_
        refine s_of (st_lss rfl rfl rfl) rfl rfl rfl rfl ?_
        refine rt_nil ?_
        refine tri_cond rfl (fun c29 => ?_) (fun c29 => ?_)
        ·replace h := cond_t h c29
         refine tri_skip ?_
         refine tri_block ?_
         refine tri_draw mixed ?_
         refine s_fieldAddr rfl rfl fd50_10 rfl rfl rfl rfl ?_
         refine s_load rfl rfl rfl rfl ty24 rfl (.inr rfl) (by conv => lhs; whnf) rfl rfl rfl ?_
         refine m1 ?_
         refine bnd2_elim h fun x30 x31 q32 h => ?_
         refine s_callZ (kb := []) (ns := [(1000, 0)]) (v := .agg (recV x30)) rfl rfl cl164 (ws_l5Draw (Cur.mk v0_0 v0_1 v0_2) x30 x31 q32) rfl (.cons (.ptrOwn rfl) .nil) ⟨⟨_, rfl, rfl⟩, trivial⟩ (memCons (allFree_one rfl) memNil) (List.nodup_cons.2 ⟨List.not_mem_nil, .nil⟩) memNil trivial rfl trivial (memCons (allFree_one rfl) memNil) rfl rfl rfl rfl rfl rfl ?_
         refine s_buildSlice (rows' := List.map recV [x30]) rfl rfl rfl sl24 zc39 rfl rfl rfl rfl rfl rfl rfl rfl rfl ?_
         refine grd_elim h fun g33 h => ?_
         refine s_appL rfl rfl rfl sl24 zc39 rfl rfl rfl rfl rfl rfl (src_refL rfl rfl) g33 rfl rfl ?_
         refine s_fieldAddr rfl rfl fd50_10 rfl rfl rfl rfl ?_
         refine s_store (rows' := [[.sc (.int .i64 x1.id), .sc (.bool x1.reply), .sc (.bool x1.auth), .sc (.bool x1.cut), .sc (.bool x1.want), .sc (.bool x1.can), .sc (.int .i64 x1.code), .sc (.string x1.q.name), .sc (.int .i64 x1.q.ty), .ref (5, 9) 0 x1.an.length, .ref (5, 10) 0 x1.au.length, .ref (53, 0) 0 ((v0_3 ++ [x30]).length)]]) rfl rfl rfl rfl ty24 rfl rfl rfl rfl rfl rfl ?_
         refine rt_nil ⟨by kernel_rfl, ?_⟩
         refine Exists.intro ⟨(f0, x31.b, x31.i, x31.h, v0_3 ++ [x30]), h⟩ (And.intro (Nat.lt_succ_self _) ?_)
         refine entX [((1000, 0), ⟨136, 3, [[.lst 1 (List.map byteV x31.b), .sc (.int .i64 x31.i), .sc (.int .i64 x31.h)]], false, false⟩, some (1000, 0)), ((2, 0), ⟨50, 12, [[.sc (.int .i64 0), .sc (.bool false), .sc (.bool false), .sc (.bool false), .sc (.bool false), .sc (.bool false), .sc (.int .i64 0), .sc (.string (⟨#[]⟩ : ByteArray)), .sc (.int .i64 0), .nils, .nils, .nils]], false, true⟩, some (2, 0)), ((3, 0), ⟨50, 12, [[.sc (.int .i64 x1.id), .sc (.bool x1.reply), .sc (.bool x1.auth), .sc (.bool x1.cut), .sc (.bool x1.want), .sc (.bool x1.can), .sc (.int .i64 x1.code), .sc (.string x1.q.name), .sc (.int .i64 x1.q.ty), .ref (5, 9) 0 x1.an.length, .ref (5, 10) 0 x1.au.length, .ref (2003, 12) 0 (v0_3 ++ [x30]).length]], false, true⟩, some (3, 0)), ((5, 9), ⟨39, 6, List.map recV x1.an, false, true⟩, some (5, 9)), ((5, 10), ⟨39, 6, List.map recV x1.au, false, true⟩, some (5, 10)), ((2003, 12), ⟨39, 6, List.map recV (v0_3 ++ [x30]), false, true⟩, some (53, 0))] [] ⟨⟨rfl, _, rfl, rfl, rfl, rfl, id, rowsCv_one (.cons (.free rfl) (.cons (.free rfl) (.cons (.free rfl) .nil))), rowsZ_one rfl⟩, ⟨rfl, _, rfl, rfl, rfl, rfl, id, rowsCv_one (.cons (.free rfl) (.cons (.free rfl) (.cons (.free rfl) (.cons (.free rfl) (.cons (.free rfl) (.cons (.free rfl) (.cons (.free rfl) (.cons (.free rfl) (.cons (.free rfl) (.cons (.free rfl) (.cons (.free rfl) (.cons (.free rfl) .nil)))))))))))), rowsZ_one rfl⟩, ⟨rfl, _, rfl, rfl, rfl, rfl, id, rowsCv_one (.cons (.free rfl) (.cons (.free rfl) (.cons (.free rfl) (.cons (.free rfl) (.cons (.free rfl) (.cons (.free rfl) (.cons (.free rfl) (.cons (.free rfl) (.cons (.free rfl) (.cons (.ref rfl) (.cons (.ref rfl) (.cons (.ref rfl) .nil)))))))))))), rowsZ_one rfl⟩, ⟨rfl, _, rfl, rfl, rfl, rfl, id, rowsCv_eq rfl (allFree_map recV_free), rowsZ_map recV_len⟩, ⟨rfl, _, rfl, rfl, rfl, rfl, id, rowsCv_eq rfl (allFree_map recV_free), rowsZ_map recV_len⟩, ⟨rfl, _, rfl, rfl, rfl, rfl, id, rowsCv_eq rfl (allFree_map recV_free), rowsZ_map recV_len⟩, trivial⟩ trivial rfl rfl ?_
         exact ⟨(.ptr rfl), (.ptr rfl), (.ptr rfl), trivial⟩
        ·replace h := cond_f h c29
         refine tri_exit ?_
         refine tri_sr ?_
         refine s_loadR rfl rfl rfl rfl ty50 rfl rfl rfl ?_
         refine s_storeB rfl rfl rfl ty50 rfl rfl rfl rfl rfl ?_
         refine rt_nil ?_
         refine tri_ret ?_
         have e0 := (some2 h).1; have e1 := (some2 h).2; subst e0; subst e1
         exact endY (v' := .agg [.sc (.int .i64 x1.id), .sc (.bool x1.reply), .sc (.bool x1.auth), .sc (.bool x1.cut), .sc (.bool x1.want), .sc (.bool x1.can), .sc (.int .i64 x1.code), .sc (.string x1.q.name), .sc (.int .i64 x1.q.ty), .ref (2000, 9) 0 x1.an.length, .ref (2000, 10) 0 x1.au.length, .ref (2000, 11) 0 v0_3.length]) [((2000, 9), ⟨39, 6, List.map recV x1.an, false, true⟩, some (5, 9)), ((2000, 10), ⟨39, 6, List.map recV x1.au, false, true⟩, some (5, 10)), ((2000, 11), ⟨39, 6, List.map recV v0_3, false, true⟩, some (2003, 12)), ((1000, 0), ⟨136, 3, [[.lst 1 (List.map byteV v0_0), .sc (.int .i64 v0_1), .sc (.int .i64 v0_2)]], false, false⟩, some (1000, 0))] [] (rvC (resCell rfl rfl ty50) rvN) ⟨⟨rfl, _, rfl, rfl, rfl, rfl, id, rowsCv_eq rfl (allFree_map recV_free), rowsZ_map recV_len⟩, ⟨rfl, _, rfl, rfl, rfl, rfl, id, rowsCv_eq rfl (allFree_map recV_free), rowsZ_map recV_len⟩, ⟨rfl, _, rfl, rfl, rfl, rfl, id, rowsCv_eq rfl (allFree_map recV_free), rowsZ_map recV_len⟩, ⟨rfl, _, rfl, rfl, rfl, rfl, id, rowsCv_one (.cons (.free rfl) (.cons (.free rfl) (.cons (.free rfl) .nil))), rowsZ_one rfl⟩, trivial⟩ trivial rfl rfl (by kernel_rfl) (by simp only [V.mat, V.mat1, V.mat0, matL, matT, List.length_map] <;> rfl) (CvL.agg (.cons (.free rfl) (.cons (.free rfl) (.cons (.free rfl) (.cons (.free rfl) (.cons (.free rfl) (.cons (.free rfl) (.cons (.free rfl) (.cons (.free rfl) (.cons (.free rfl) (.cons (.ref rfl) (.cons (.ref rfl) (.cons (.ref rfl) .nil)))))))))))))
      ·replace h := cond_f h c28
       refine tri_skip ?_
       refine tri_sr ?_
       refine s_loadR rfl rfl rfl rfl ty50 rfl rfl rfl ?_
       refine s_storeB rfl rfl rfl ty50 rfl rfl rfl rfl rfl ?_
       refine rt_nil ?_
       refine tri_ret ?_
       have e0 := (some2 h).1; have e1 := (some2 h).2; subst e0; subst e1
       exact endY (v' := .agg [.sc (.int .i64 x1.id), .sc (.bool x1.reply), .sc (.bool x1.auth), .sc (.bool x1.cut), .sc (.bool x1.want), .sc (.bool x1.can), .sc (.int .i64 x1.code), .sc (.string x1.q.name), .sc (.int .i64 x1.q.ty), .ref (2000, 9) 0 x1.an.length, .ref (2000, 10) 0 x1.au.length, .ref (2000, 11) 0 x1.ad.length]) [((2000, 9), ⟨39, 6, List.map recV x1.an, false, true⟩, some (5, 9)), ((2000, 10), ⟨39, 6, List.map recV x1.au, false, true⟩, some (5, 10)), ((2000, 11), ⟨39, 6, List.map recV x1.ad, false, true⟩, some (5, 11)), ((1000, 0), ⟨136, 3, [[.lst 1 (List.map byteV x5.b), .sc (.int .i64 x5.i), .sc (.int .i64 x5.h)]], false, false⟩, some (1000, 0))] [] (rvC (resCell rfl rfl ty50) rvN) ⟨⟨rfl, _, rfl, rfl, rfl, rfl, id, rowsCv_eq rfl (allFree_map recV_free), rowsZ_map recV_len⟩, ⟨rfl, _, rfl, rfl, rfl, rfl, id, rowsCv_eq rfl (allFree_map recV_free), rowsZ_map recV_len⟩, ⟨rfl, _, rfl, rfl, rfl, rfl, id, rowsCv_eq rfl (allFree_map recV_free), rowsZ_map recV_len⟩, ⟨rfl, _, rfl, rfl, rfl, rfl, id, rowsCv_one (.cons (.free rfl) (.cons (.free rfl) (.cons (.free rfl) .nil))), rowsZ_one rfl⟩, trivial⟩ trivial rfl rfl (by kernel_rfl) (by simp only [V.mat, V.mat1, V.mat0, matL, matT, List.length_map] <;> rfl) (CvL.agg (.cons (.free rfl) (.cons (.free rfl) (.cons (.free rfl) (.cons (.free rfl) (.cons (.free rfl) (.cons (.free rfl) (.cons (.free rfl) (.cons (.free rfl) (.cons (.free rfl) (.cons (.ref rfl) (.cons (.ref rfl) (.cons (.ref rfl) .nil)))))))))))))

end Go.Abs.M
