/- Walks of the functions that the law of FnClasses reaches: what each of them computes, where its pure function does not fail. -/
import Derived.Test.YtbkmnbpgpklojaaDoorWalkFnClasses0
set_option linter.unusedSimpArgs false
set_option linter.unusedVariables false
namespace Go.Abs.M
open Go Go.Abs Go.Proofs
theorem cl100 : callable Tryd.prog 100 = true := by kernel_rfl
theorem cl104 : callable Tryd.prog 104 = true := by kernel_rfl
theorem cl105 : callable Tryd.prog 105 = true := by kernel_rfl
theorem cl124 : callable Tryd.prog 124 = true := by kernel_rfl
theorem cl13 : callable Tryd.prog 13 = true := by kernel_rfl
theorem cl14 : callable Tryd.prog 14 = true := by kernel_rfl
theorem cl152 : callable Tryd.prog 152 = true := by kernel_rfl
theorem cl155 : callable Tryd.prog 155 = true := by kernel_rfl
theorem cl17 : callable Tryd.prog 17 = true := by kernel_rfl
theorem cl18 : callable Tryd.prog 18 = true := by kernel_rfl
theorem cl19 : callable Tryd.prog 19 = true := by kernel_rfl
theorem cl21 : callable Tryd.prog 21 = true := by kernel_rfl
theorem cl27 : callable Tryd.prog 27 = true := by kernel_rfl
theorem cl28 : callable Tryd.prog 28 = true := by kernel_rfl
theorem cl41 : callable Tryd.prog 41 = true := by kernel_rfl
theorem cl57 : callable Tryd.prog 57 = true := by kernel_rfl
theorem cl59 : callable Tryd.prog 59 = true := by kernel_rfl
theorem cl61 : callable Tryd.prog 61 = true := by kernel_rfl
theorem cl72 : callable Tryd.prog 72 = true := by kernel_rfl
theorem cl77 : callable Tryd.prog 77 = true := by kernel_rfl
theorem cl81 : callable Tryd.prog 81 = true := by kernel_rfl
theorem cl92 : callable Tryd.prog 92 = true := by kernel_rfl
theorem cl98 : callable Tryd.prog 98 = true := by kernel_rfl
theorem cl99 : callable Tryd.prog 99 = true := by kernel_rfl
theorem fd26_0 : fldTy Tryd.prog 26 0 = some (0, 0 + 1, false) := by kernel_rfl
theorem fd26_1 : fldTy Tryd.prog 26 1 = some (1, 0 + 1, false) := by kernel_rfl
theorem fd28_0 : fldTy Tryd.prog 28 0 = some (0, 0 + 1, false) := by kernel_rfl
theorem fd28_1 : fldTy Tryd.prog 28 1 = some (1, 0 + 1, false) := by kernel_rfl
theorem fd50_0 : fldTy Tryd.prog 50 0 = some (0, 0 + 1, false) := by kernel_rfl
theorem fd50_10 : fldTy Tryd.prog 50 10 = some (11, 0 + 1, false) := by kernel_rfl
theorem fd50_2 : fldTy Tryd.prog 50 2 = some (2, 0 + 1, false) := by kernel_rfl
theorem fd50_3 : fldTy Tryd.prog 50 3 = some (3, 0 + 1, false) := by kernel_rfl
theorem fd50_4 : fldTy Tryd.prog 50 4 = some (4, 0 + 1, false) := by kernel_rfl
theorem fd50_6 : fldTy Tryd.prog 50 6 = some (6, 0 + 1, false) := by kernel_rfl
theorem fd50_7 : fldTy Tryd.prog 50 7 = some (7, 1 + 1, true) := by kernel_rfl
theorem fd50_8 : fldTy Tryd.prog 50 8 = some (9, 0 + 1, false) := by kernel_rfl
theorem fd50_9 : fldTy Tryd.prog 50 9 = some (10, 0 + 1, false) := by kernel_rfl
theorem ty24 : tyK Tryd.prog 24 = some (false, 1) := by kernel_rfl
theorem ty26 : tyK Tryd.prog 26 = some (true, 2) := by kernel_rfl
theorem ty4 : tyK Tryd.prog 4 = some (false, 1) := by kernel_rfl
/- impl.CutsOf -/
def inv_i_CutsOf_1 (p0 : MZone) (v0_0 : List ByteArray) (v0_1 : Nat) (e0 : Rec) (j1_0 : Bool) : St := mkT 45 [(1, .ptr (1, 0) 0 0), (3, .ref (2003, 0) 0 v0_0.length), (5, .ptr (5, 0) 0 0), (8, .lst 6 (List.map recV p0.l)), (9, .sc (.int .i64 (p0.l.length : Int))), (10, .sc (.int .i64 (v0_1 : Int))), (37, .sc (.bool j1_0))] [((1, 0), some ⟨26, 2, [[.sc (.string p0.apex), .lst 6 (List.map recV p0.l)]], false, true⟩), ((2003, 0), some ⟨9, 1, List.map strV v0_0, false, true⟩), ((5, 0), some ⟨39, 6, [[.sc (.string e0.name), .sc (.int .i64 e0.ty), .sc (.int .i64 e0.ttl), .sc (.int .i64 e0.n), .sc (.string e0.host), .sc (.string e0.text)]], false, true⟩)]
def inv_i_CutsOf_0 (p0 : MZone) (v0_0 : List ByteArray) (v0_1 : Nat) : St := mkT 45 [(1, .ptr (1, 0) 0 0), (3, .ref (2003, 0) 0 v0_0.length), (8, .lst 6 (List.map recV p0.l)), (9, .sc (.int .i64 (p0.l.length : Int))), (10, .sc (.int .i64 (v0_1 : Int)))] [((1, 0), some ⟨26, 2, [[.sc (.string p0.apex), .lst 6 (List.map recV p0.l)]], false, true⟩), ((2003, 0), some ⟨9, 1, List.map strV v0_0, false, true⟩)]
set_option maxRecDepth 4000 in
set_option maxHeartbeats 800000 in
theorem wi_CutsOf (p0 : MZone) (r0 : List ByteArray) (h : i_CutsOf p0 = some r0) : Runs Tryd.prog 14 [.agg (mZoneV p0)] [] (.own 9 1 (List.map strV r0)) [] := by
 unfold i_CutsOf at h
 refine runsR [.tmp 2] Tryd.func14 rfl rfl rfl rfl ?_
 rw [Tryd.ntmps14]
 refine tri_sr ?_
 refine s_box rfl rfl rfl rfl rfl rfl rfl ?_
 refine s_mv (.inr rfl) (v := .nils) rfl rfl rfl rfl ?_
 refine rt_nil ?_
 refine tri_sr ?_
 refine s_buildSlice (rows' := List.map strV ([] : List ByteArray)) rfl rfl rfl sl33 zc9 rfl rfl rfl rfl rfl rfl rfl rfl rfl ?_
 refine m2 ?_
 refine rt_nil ?_
 refine tri_seq ?_
 refine tri_sr ?_
 refine s_fieldAddr rfl rfl fd26_1 rfl rfl rfl rfl ?_
 refine s_load rfl rfl rfl rfl ty24 rfl (.inr rfl) (by conv => lhs; whnf) rfl rfl rfl ?_
 refine s_lenL rfl sl24 rfl rfl rfl rfl ?_
 refine s_mv (.inl rfl) (v := .sc (.int .i64 0)) rfl rfl rfl rfl ?_
 refine rt_nil ?_
 refine tri_block ?_
 refine tri_aggM 0 1 rfl rfl (fun hl0 => ?_)
 refine tri_loop (ι := { p : (List Rec) × (List ByteArray) × Nat // p0.l.drop p.2.2 = p.1 ∧ i_CutsOf_l0 p0 p.1 p.2.1 p.2.2 = some r0 }) (fun p => inv_i_CutsOf_0 p0 p.1.2.1 p.1.2.2) (fun p => p.1.1.length) ⟨(p0.l, ([] : List ByteArray), 0), rfl, h⟩ ?_ ?_
 ·skip
  refine entX [((1, 0), ⟨26, 2, [[.sc (.string p0.apex), .lst 6 (List.map recV p0.l)]], false, true⟩, some (1, 0)), ((2003, 0), ⟨9, 1, List.map strV ([] : List ByteArray), false, true⟩, some (6, 0))] [] ⟨⟨rfl, _, rfl, rfl, rfl, rfl, id, rowsCv_one (.cons (.free rfl) (.cons (.free rfl) .nil)), rowsZ_one rfl⟩, ⟨rfl, _, rfl, rfl, rfl, rfl, id, rowsCv_eq rfl (allFree_map strV_free), rowsZ_map strV_len⟩, trivial⟩ trivial rfl rfl ?_
  exact ⟨(.ptr rfl), (.ref rfl), (.free rfl), (.free rfl), (.free rfl), trivial⟩
 ·rintro ⟨⟨lrs0, v0_0, v0_1⟩, hd0, h⟩
  replace hd0 : p0.l.drop v0_1 = lrs0 := hd0
  replace h : i_CutsOf_l0 p0 lrs0 v0_0 v0_1 = some r0 := h
  show Tri _ _ _ (inv_i_CutsOf_0 p0 v0_0 v0_1)
  refine tri_sr ?_
  refine s_of (st_lss rfl rfl rfl) rfl rfl rfl rfl ?_
  refine rt_nil ?_
  refine tri_seq ?_
  refine tri_cond rfl (fun c1 => ?_) (fun c1 => ?_)
  ·refine drop_elim hd0 c1 fun e0 rs0 he hx0 hn0 => ?_
   subst he
   rw [i_CutsOf_l0] at h
   refine tri_skip ?_
   refine tri_seq ?_
   refine tri_block ?_
   refine tri_sr ?_
   refine s_indexF (i := v0_1) rfl rfl rfl sl24 (get_ltM hx0) rfl rfl rfl ?_
   refine s_loadFR rfl rfl (rowG hx0) ty39 rfl rfl rfl ?_
   refine s_alloc rfl rfl rfl zc39 rfl rfl rfl rfl rfl ?_
   refine s_storeB rfl rfl rfl ty39 rfl rfl rfl rfl rfl ?_
   refine rt_nil ?_
   refine tri_cutI (ι := { p : Bool // i_CutsOf_j1 v0_0 v0_1 e0 (i_CutsOf_l0 p0 rs0) p = some r0 }) (fun p => inv_i_CutsOf_1 p0 v0_0 v0_1 e0 p.1) ?_ ?_
   ·skip
    refine tri_region ?_
    refine s_fieldAddr rfl rfl fd39_1 rfl rfl rfl rfl ?_
    refine s_load rfl rfl rfl rfl ty3 rfl (.inr rfl) (by conv => lhs; whnf) rfl rfl rfl ?_
    refine s_of (st_eqI rfl rfl rfl) rfl rfl rfl rfl ?_
    refine m1 ?_
    refine s_split (t := 17) rfl (fun b2 => ?_) (fun b2 => ?_)
    ·replace h := cond_t h b2
     refine s_fieldAddr rfl rfl fd39_0 rfl rfl rfl rfl ?_
     refine s_load rfl rfl rfl rfl ty9 rfl (.inr rfl) (by conv => lhs; whnf) rfl rfl rfl ?_
     refine s_fieldAddr rfl rfl fd26_0 rfl rfl rfl rfl ?_
     refine s_load rfl rfl rfl rfl ty9 rfl (.inr rfl) (by conv => lhs; whnf) rfl rfl rfl ?_
     refine s_of (st_neS rfl rfl rfl) rfl rfl rfl rfl ?_
     refine s_pickT rfl rfl (by conv => lhs; whnf) rfl rfl rfl ?_
     refine m1 ?_
     refine s_split (t := 24) rfl (fun b3 => ?_) (fun b3 => ?_)
     ·replace h := cond_t h b3
      refine s_fieldAddr rfl rfl fd39_0 rfl rfl rfl rfl ?_
      refine s_load rfl rfl rfl rfl ty9 rfl (.inr rfl) (by conv => lhs; whnf) rfl rfl rfl ?_
      refine s_fieldAddr rfl rfl fd26_0 rfl rfl rfl rfl ?_
      refine s_load rfl rfl rfl rfl ty9 rfl (.inr rfl) (by conv => lhs; whnf) rfl rfl rfl ?_
      refine bnd1_elim h fun x4 q5 h => ?_
      refine s_callN (kb := []) (ns := []) (v := .sc (.bool x4)) rfl rfl cl17 (wi_Under e0.name p0.apex x4 q5) rfl (.cons (.free rfl) (.cons (.free rfl) .nil)) trivial memNil .nil memNil rfl trivial memNil rfl rfl rfl rfl rfl rfl ?_
      refine s_pickT rfl rfl (by conv => lhs; whnf) rfl rfl rfl ?_
      refine m1 ?_
      refine s_split (t := 31) rfl (fun b6 => ?_) (fun b6 => ?_)
      ·replace h := cond_t h b6
       refine m1 ?_
       refine s_fieldAddr rfl rfl fd39_0 rfl rfl rfl rfl ?_
       refine s_load rfl rfl rfl rfl ty9 rfl (.inr rfl) (by conv => lhs; whnf) rfl rfl rfl ?_
       refine bnd1_elim h fun x7 q8 h => ?_
       refine s_callN (kb := [(2003, 0)]) (ns := []) (v := .sc (.bool x7)) rfl rfl cl92 (wslices_Contains_string v0_0 e0.name x7 q8) rfl (.cons (lendL rfl (.head _) rfl strV_free strV_len) (.cons (.free rfl) .nil)) trivial memNil .nil (fun _ _ => List.not_mem_nil) rfl trivial memNil rfl rfl rfl rfl rfl rfl ?_
       refine s_of (st_not rfl rfl) rfl rfl rfl rfl ?_
       refine s_pickT rfl rfl (by conv => lhs; whnf) rfl rfl rfl ?_
       refine rt_nil ?_
       refine Exists.intro ⟨!x7, h⟩ ?_
       refine entX [((1, 0), ⟨26, 2, [[.sc (.string p0.apex), .lst 6 (List.map recV p0.l)]], false, true⟩, some (1, 0)), ((2003, 0), ⟨9, 1, List.map strV v0_0, false, true⟩, some (2003, 0)), ((5, 0), ⟨39, 6, [[.sc (.string e0.name), .sc (.int .i64 e0.ty), .sc (.int .i64 e0.ttl), .sc (.int .i64 e0.n), .sc (.string e0.host), .sc (.string e0.text)]], false, true⟩, some (5, 0))] [] ⟨⟨rfl, _, rfl, rfl, rfl, rfl, id, rowsCv_one (.cons (.free rfl) (.cons (.free rfl) .nil)), rowsZ_one rfl⟩, ⟨rfl, _, rfl, rfl, rfl, rfl, id, rowsCv_eq rfl (allFree_map strV_free), rowsZ_map strV_len⟩, ⟨rfl, _, rfl, rfl, rfl, rfl, id, rowsCv_one (.cons (.free rfl) (.cons (.free rfl) (.cons (.free rfl) (.cons (.free rfl) (.cons (.free rfl) (.cons (.free rfl) .nil)))))), rowsZ_one rfl⟩, trivial⟩ trivial rfl rfl ?_
       exact ⟨(.ptr rfl), (.ref rfl), (.ptr rfl), (.free rfl), (.free rfl), (.free rfl), (.free rfl), trivial⟩
      ·replace h := cond_f h b6
       refine s_skip rfl rfl rfl ?_
       refine s_skip rfl rfl rfl ?_
       refine s_skip rfl rfl rfl ?_
       refine s_skip rfl rfl rfl ?_
       refine s_skip rfl rfl rfl ?_
       refine s_pickF rfl rfl (v := .sc (.bool false)) rfl rfl rfl rfl ?_
       refine rt_nil ?_
       refine Exists.intro ⟨false, h⟩ ?_
       refine entX [((1, 0), ⟨26, 2, [[.sc (.string p0.apex), .lst 6 (List.map recV p0.l)]], false, true⟩, some (1, 0)), ((2003, 0), ⟨9, 1, List.map strV v0_0, false, true⟩, some (2003, 0)), ((5, 0), ⟨39, 6, [[.sc (.string e0.name), .sc (.int .i64 e0.ty), .sc (.int .i64 e0.ttl), .sc (.int .i64 e0.n), .sc (.string e0.host), .sc (.string e0.text)]], false, true⟩, some (5, 0))] [] ⟨⟨rfl, _, rfl, rfl, rfl, rfl, id, rowsCv_one (.cons (.free rfl) (.cons (.free rfl) .nil)), rowsZ_one rfl⟩, ⟨rfl, _, rfl, rfl, rfl, rfl, id, rowsCv_eq rfl (allFree_map strV_free), rowsZ_map strV_len⟩, ⟨rfl, _, rfl, rfl, rfl, rfl, id, rowsCv_one (.cons (.free rfl) (.cons (.free rfl) (.cons (.free rfl) (.cons (.free rfl) (.cons (.free rfl) (.cons (.free rfl) .nil)))))), rowsZ_one rfl⟩, trivial⟩ trivial rfl rfl ?_
       exact ⟨(.ptr rfl), (.ref rfl), (.ptr rfl), (.free rfl), (.free rfl), (.free rfl), (.free rfl), trivial⟩
     ·replace h := cond_f h b3
      refine s_skip rfl rfl rfl ?_
      refine s_skip rfl rfl rfl ?_
      refine s_skip rfl rfl rfl ?_
      refine s_skip rfl rfl rfl ?_
      refine s_skip rfl rfl rfl ?_
      refine s_pickF rfl rfl (v := .sc (.bool false)) rfl rfl rfl rfl ?_
      refine m1 ?_
      refine s_skip rfl rfl rfl ?_
      refine s_skip rfl rfl rfl ?_
      refine s_skip rfl rfl rfl ?_
      refine s_skip rfl rfl rfl ?_
      refine s_skip rfl rfl rfl ?_
      refine s_pickF rfl rfl (v := .sc (.bool false)) rfl rfl rfl rfl ?_
      refine rt_nil ?_
      refine Exists.intro ⟨false, h⟩ ?_
      refine entX [((1, 0), ⟨26, 2, [[.sc (.string p0.apex), .lst 6 (List.map recV p0.l)]], false, true⟩, some (1, 0)), ((2003, 0), ⟨9, 1, List.map strV v0_0, false, true⟩, some (2003, 0)), ((5, 0), ⟨39, 6, [[.sc (.string e0.name), .sc (.int .i64 e0.ty), .sc (.int .i64 e0.ttl), .sc (.int .i64 e0.n), .sc (.string e0.host), .sc (.string e0.text)]], false, true⟩, some (5, 0))] [] ⟨⟨rfl, _, rfl, rfl, rfl, rfl, id, rowsCv_one (.cons (.free rfl) (.cons (.free rfl) .nil)), rowsZ_one rfl⟩, ⟨rfl, _, rfl, rfl, rfl, rfl, id, rowsCv_eq rfl (allFree_map strV_free), rowsZ_map strV_len⟩, ⟨rfl, _, rfl, rfl, rfl, rfl, id, rowsCv_one (.cons (.free rfl) (.cons (.free rfl) (.cons (.free rfl) (.cons (.free rfl) (.cons (.free rfl) (.cons (.free rfl) .nil)))))), rowsZ_one rfl⟩, trivial⟩ trivial rfl rfl ?_
      exact ⟨(.ptr rfl), (.ref rfl), (.ptr rfl), (.free rfl), (.free rfl), (.free rfl), (.free rfl), trivial⟩
    ·replace h := cond_f h b2
     refine s_skip rfl rfl rfl ?_
     refine s_skip rfl rfl rfl ?_
     refine s_skip rfl rfl rfl ?_
     refine s_skip rfl rfl rfl ?_
     refine s_skip rfl rfl rfl ?_
     refine s_pickF rfl rfl (v := .sc (.bool false)) rfl rfl rfl rfl ?_
     refine m1 ?_
     refine s_skip rfl rfl rfl ?_
     refine s_skip rfl rfl rfl ?_
     refine s_skip rfl rfl rfl ?_
     refine s_skip rfl rfl rfl ?_
     refine s_skip rfl rfl rfl ?_
     refine s_pickF rfl rfl (v := .sc (.bool false)) rfl rfl rfl rfl ?_
     refine m1 ?_
     refine s_skip rfl rfl rfl ?_
     refine s_skip rfl rfl rfl ?_
     refine s_skip rfl rfl rfl ?_
     refine s_skip rfl rfl rfl ?_
     refine s_skip rfl rfl rfl ?_
     refine s_pickF rfl rfl (v := .sc (.bool false)) rfl rfl rfl rfl ?_
     refine rt_nil ?_
     refine Exists.intro ⟨false, h⟩ ?_
     refine entX [((1, 0), ⟨26, 2, [[.sc (.string p0.apex), .lst 6 (List.map recV p0.l)]], false, true⟩, some (1, 0)), ((2003, 0), ⟨9, 1, List.map strV v0_0, false, true⟩, some (2003, 0)), ((5, 0), ⟨39, 6, [[.sc (.string e0.name), .sc (.int .i64 e0.ty), .sc (.int .i64 e0.ttl), .sc (.int .i64 e0.n), .sc (.string e0.host), .sc (.string e0.text)]], false, true⟩, some (5, 0))] [] ⟨⟨rfl, _, rfl, rfl, rfl, rfl, id, rowsCv_one (.cons (.free rfl) (.cons (.free rfl) .nil)), rowsZ_one rfl⟩, ⟨rfl, _, rfl, rfl, rfl, rfl, id, rowsCv_eq rfl (allFree_map strV_free), rowsZ_map strV_len⟩, ⟨rfl, _, rfl, rfl, rfl, rfl, id, rowsCv_one (.cons (.free rfl) (.cons (.free rfl) (.cons (.free rfl) (.cons (.free rfl) (.cons (.free rfl) (.cons (.free rfl) .nil)))))), rowsZ_one rfl⟩, trivial⟩ trivial rfl rfl ?_
     exact ⟨(.ptr rfl), (.ref rfl), (.ptr rfl), (.free rfl), (.free rfl), (.free rfl), (.free rfl), trivial⟩
   ·rintro ⟨j1_0, h⟩
    replace h : i_CutsOf_j1 v0_0 v0_1 e0 (i_CutsOf_l0 p0 rs0) j1_0 = some r0 := h
    unfold i_CutsOf_j1 at h
    show Tri _ _ _ (inv_i_CutsOf_1 p0 v0_0 v0_1 e0 j1_0)
    refine tri_cond rfl (fun c2 => ?_) (fun c2 => ?_)
    ·replace h := cond_t h c2
     refine tri_region ?_
     refine m1 ?_
     refine s_fieldAddr rfl rfl fd39_0 rfl rfl rfl rfl ?_
     refine s_load rfl rfl rfl rfl ty9 rfl (.inr rfl) (by conv => lhs; whnf) rfl rfl rfl ?_
     refine s_buildSlice (rows' := List.map strV [e0.name]) rfl rfl rfl sl33 zc9 rfl rfl rfl rfl rfl rfl rfl rfl rfl ?_
     refine grd_elim h fun g3 h => ?_
     refine s_appL rfl rfl rfl sl33 zc9 rfl rfl rfl rfl rfl rfl (src_refL rfl rfl) g3 rfl rfl ?_
     refine m2 ?_
     refine rt_nil ?_
     refine tri_region ?_
     refine s_inc (a := v0_1) (b := 1) rfl rfl rfl rfl (by have := get_lt hx0; have := hl0; omega) rfl rfl rfl ?_
     refine m1 ?_
     refine rt_nil ?_
     refine Exists.intro ⟨(rs0, v0_0 ++ [e0.name], (v0_1 + 1)), hn0, h⟩ (And.intro (Nat.lt_succ_self _) ?_)
     refine entX [((1, 0), ⟨26, 2, [[.sc (.string p0.apex), .lst 6 (List.map recV p0.l)]], false, true⟩, some (1, 0)), ((2003, 0), ⟨9, 1, List.map strV (v0_0 ++ [e0.name]), false, true⟩, some (42, 0))] [] ⟨⟨rfl, _, rfl, rfl, rfl, rfl, id, rowsCv_one (.cons (.free rfl) (.cons (.free rfl) .nil)), rowsZ_one rfl⟩, ⟨rfl, _, rfl, rfl, rfl, rfl, id, rowsCv_eq rfl (allFree_map strV_free), rowsZ_map strV_len⟩, trivial⟩ trivial rfl rfl ?_
     exact ⟨(.ptr rfl), (.ref rfl), (.free rfl), (.free rfl), (.free rfl), trivial⟩
    ·replace h := cond_f h c2
     refine tri_skip ?_
     refine tri_region ?_
     refine s_inc (a := v0_1) (b := 1) rfl rfl rfl rfl (by have := get_lt hx0; have := hl0; omega) rfl rfl rfl ?_
     refine m1 ?_
     refine rt_nil ?_
     refine Exists.intro ⟨(rs0, v0_0, (v0_1 + 1)), hn0, h⟩ (And.intro (Nat.lt_succ_self _) ?_)
     refine entX [((1, 0), ⟨26, 2, [[.sc (.string p0.apex), .lst 6 (List.map recV p0.l)]], false, true⟩, some (1, 0)), ((2003, 0), ⟨9, 1, List.map strV v0_0, false, true⟩, some (2003, 0))] [] ⟨⟨rfl, _, rfl, rfl, rfl, rfl, id, rowsCv_one (.cons (.free rfl) (.cons (.free rfl) .nil)), rowsZ_one rfl⟩, ⟨rfl, _, rfl, rfl, rfl, rfl, id, rowsCv_eq rfl (allFree_map strV_free), rowsZ_map strV_len⟩, trivial⟩ trivial rfl rfl ?_
     exact ⟨(.ptr rfl), (.ref rfl), (.free rfl), (.free rfl), (.free rfl), trivial⟩
  ·have he := drop_f hd0 c1; subst he
   rw [i_CutsOf_l0] at h
   refine tri_exit ?_
   refine tri_sr ?_
   refine m1 ?_
   refine m2 ?_
   refine rt_nil ?_
   refine tri_ret ?_
   have e0 := (some1 h); subst e0
   exact endY (v' := .ref (2000, 0) 0 v0_0.length) [((2000, 0), ⟨9, 1, List.map strV v0_0, false, true⟩, some (2003, 0))] [] (rvC (resTmp rfl) rvN) ⟨⟨rfl, _, rfl, rfl, rfl, rfl, id, rowsCv_eq rfl (allFree_map strV_free), rowsZ_map strV_len⟩, trivial⟩ trivial rfl rfl (by kernel_rfl) (by simp only [V.mat, V.mat1, V.mat0, matL, matT, List.length_map] <;> rfl) (.ref rfl)

/- impl.CutOf -/
def inv_i_CutOf_0 (p1 : ByteArray) (x1 : List ByteArray) (v0_0 : Nat) : St := mkT 20 [(1, .sc (.string p1)), (9, .ref (9, 0) 0 x1.length), (10, .sc (.int .i64 (x1.length : Int))), (11, .sc (.int .i64 (v0_0 : Int)))] [((9, 0), some ⟨9, 1, List.map strV x1, false, true⟩)]
set_option maxRecDepth 4000 in
set_option maxHeartbeats 800000 in
theorem wi_CutOf (p0 : MZone) (p1 : ByteArray) (r0 : ByteArray) (r1 : Bool) (h : i_CutOf p0 p1 = some (r0, r1)) : Runs Tryd.prog 13 [.agg (mZoneV p0), .sc (.string p1)] [] (.tup [.sc (.string r0), .sc (.bool r1)]) [] := by
 unfold i_CutOf at h
 refine runsR [.tmp 4, .tmp 5] Tryd.func13 rfl rfl rfl rfl ?_
 rw [Tryd.ntmps13]
 refine tri_sr ?_
 refine s_box rfl rfl rfl rfl rfl rfl rfl ?_
 refine s_mv (.inr rfl) (v := .sc (.string (⟨#[]⟩ : ByteArray))) rfl rfl rfl rfl ?_
 refine s_mv (.inr rfl) (v := .sc (.bool false)) rfl rfl rfl rfl ?_
 refine rt_nil ?_
 refine tri_seq ?_
 refine tri_sr ?_
 refine s_loadR rfl rfl rfl rfl ty26 rfl rfl rfl ?_
 refine bnd1_elim h fun x1 q2 h => ?_
 refine s_callN (kb := []) (ns := []) (v := .ref (9, 0) 0 x1.length) rfl rfl cl14 (wi_CutsOf p0 x1 q2) rfl (.cons (relAgg rfl) .nil) trivial memNil .nil memNil rfl ⟨(allSc_map strV_sc), trivial⟩ memNil rfl (by simp only [V.mat, V.mat1, V.mat0, matL, matT, List.length_map] <;> rfl) rfl rfl rfl rfl ?_
 refine s_len (m := x1.length) rfl sl33 rfl rfl rfl rfl ?_
 refine s_mv (.inl rfl) (v := .sc (.int .i64 0)) rfl rfl rfl rfl ?_
 refine rt_nil ?_
 refine tri_block ?_
 refine tri_ownM (9, 0) rfl (fun hl0 => ?_)
 refine tri_loop (ι := { p : (List ByteArray) × Nat // x1.drop p.2 = p.1 ∧ i_CutOf_l0 p1 p.1 p.2 = some (r0, r1) }) (fun p => inv_i_CutOf_0 p1 x1 p.1.2) (fun p => p.1.1.length) ⟨(x1, 0), rfl, h⟩ ?_ ?_
 ·skip
  refine entX [((9, 0), ⟨9, 1, List.map strV x1, false, true⟩, some (9, 0))] [] ⟨⟨rfl, _, rfl, rfl, rfl, rfl, id, rowsCv_eq rfl (allFree_map strV_free), rowsZ_map strV_len⟩, trivial⟩ trivial rfl rfl ?_
  exact ⟨(.free rfl), (.ref rfl), (.free rfl), (.free rfl), trivial⟩
 ·rintro ⟨⟨lrs0, v0_0⟩, hd0, h⟩
  replace hd0 : x1.drop v0_0 = lrs0 := hd0
  replace h : i_CutOf_l0 p1 lrs0 v0_0 = some (r0, r1) := h
  show Tri _ _ _ (inv_i_CutOf_0 p1 x1 v0_0)
  refine tri_sr ?_
  refine s_of (st_lss rfl rfl rfl) rfl rfl rfl rfl ?_
  refine rt_nil ?_
  refine tri_seq ?_
  refine tri_cond rfl (fun c3 => ?_) (fun c3 => ?_)
  ·refine drop_elim hd0 c3 fun e0 rs0 he hx0 hn0 => ?_
   subst he
   rw [i_CutOf_l0] at h
   refine tri_skip ?_
   refine tri_seq ?_
   refine tri_block ?_
   refine tri_sr ?_
   refine s_index0 (i := v0_0) rfl rfl rfl rfl sl33 rfl (get_lt hx0) rfl rfl rfl ?_
   refine s_load rfl rfl rfl (rowG hx0) ty9 rfl (.inr rfl) (by conv => lhs; whnf) rfl rfl rfl ?_
   refine m2 ?_
   refine rt_nil ?_
   refine tri_sr ?_
   refine m1 ?_
   refine m1 ?_
   refine bnd1_elim h fun x4 q5 h => ?_
   refine s_callN (kb := []) (ns := []) (v := .sc (.bool x4)) rfl rfl cl17 (wi_Under p1 e0 x4 q5) rfl (.cons (.free rfl) (.cons (.free rfl) .nil)) trivial memNil .nil memNil rfl trivial memNil rfl rfl rfl rfl rfl rfl ?_
   refine rt_nil ?_
   refine tri_cond rfl (fun c6 => ?_) (fun c6 => ?_)
   ·replace h := cond_t h c6
    refine tri_sr ?_
    refine m1 ?_
    refine m2 ?_
    refine s_mv (.inr rfl) (v := .sc (.bool true)) rfl rfl rfl rfl ?_
    refine rt_nil ?_
    refine tri_ret ?_
    have e0 := (some2 h).1; have e1 := (some2 h).2; subst e0; subst e1
    exact endY [] [] (rvC (resTmp rfl) (rvC (resTmp rfl) rvN)) trivial trivial rfl rfl rfl rfl (CvL.tup (.cons (.free rfl) (.cons (.free rfl) .nil)))
   ·replace h := cond_f h c6
    refine tri_skip ?_
    refine tri_region ?_
    refine s_inc (a := v0_0) (b := 1) rfl rfl rfl rfl (by have := get_lt hx0; have := hl0; omega) rfl rfl rfl ?_
    refine m1 ?_
    refine rt_nil ?_
    refine Exists.intro ⟨(rs0, (v0_0 + 1)), hn0, h⟩ (And.intro (Nat.lt_succ_self _) ?_)
    refine entX [((9, 0), ⟨9, 1, List.map strV x1, false, true⟩, some (9, 0))] [] ⟨⟨rfl, _, rfl, rfl, rfl, rfl, id, rowsCv_eq rfl (allFree_map strV_free), rowsZ_map strV_len⟩, trivial⟩ trivial rfl rfl ?_
    exact ⟨(.free rfl), (.ref rfl), (.free rfl), (.free rfl), trivial⟩
  ·have he := drop_f hd0 c3; subst he
   rw [i_CutOf_l0] at h
   refine tri_exit ?_
   refine tri_sr ?_
   refine s_mv (.inr rfl) (v := .sc (.string (⟨#[]⟩ : ByteArray))) rfl rfl rfl rfl ?_
   refine s_mv (.inr rfl) (v := .sc (.bool false)) rfl rfl rfl rfl ?_
   refine rt_nil ?_
   refine tri_ret ?_
   have e0 := (some2 h).1; have e1 := (some2 h).2; subst e0; subst e1
   exact endY [] [] (rvC (resTmp rfl) (rvC (resTmp rfl) rvN)) trivial trivial rfl rfl rfl rfl (CvL.tup (.cons (.free rfl) (.cons (.free rfl) .nil)))

/- impl.SetOf -/
def inv_i_SetOf_1 (p0 : List Rec) (p1 : ByteArray) (p2 : Int) (v0_0 : List Rec) (v0_1 : Nat) (e0 : Rec) (j1_0 : Bool) : St := mkT 33 [(1, .sc (.string p1)), (2, .sc (.int .i64 p2)), (7, .ref (2007, 0) 0 v0_0.length), (9, .ptr (9, 0) 0 0), (11, .lst 6 (List.map recV p0)), (12, .sc (.int .i64 (p0.length : Int))), (13, .sc (.int .i64 (v0_1 : Int))), (26, .sc (.bool j1_0))] [((2007, 0), some ⟨39, 6, List.map recV v0_0, false, true⟩), ((9, 0), some ⟨39, 6, [[.sc (.string e0.name), .sc (.int .i64 e0.ty), .sc (.int .i64 e0.ttl), .sc (.int .i64 e0.n), .sc (.string e0.host), .sc (.string e0.text)]], false, true⟩)]
def inv_i_SetOf_0 (p0 : List Rec) (p1 : ByteArray) (p2 : Int) (v0_0 : List Rec) (v0_1 : Nat) : St := mkT 33 [(1, .sc (.string p1)), (2, .sc (.int .i64 p2)), (7, .ref (2007, 0) 0 v0_0.length), (11, .lst 6 (List.map recV p0)), (12, .sc (.int .i64 (p0.length : Int))), (13, .sc (.int .i64 (v0_1 : Int)))] [((2007, 0), some ⟨39, 6, List.map recV v0_0, false, true⟩)]
set_option maxRecDepth 4000 in
set_option maxHeartbeats 800000 in
theorem wi_SetOf (p0 : List Rec) (p1 : ByteArray) (p2 : Int) (r0 : List Rec) (h : i_SetOf p0 p1 p2 = some r0) : Runs Tryd.prog 21 [.lst 6 (List.map recV p0), .sc (.string p1), .sc (.int .i64 p2)] [] (.own 39 6 (List.map recV r0)) [] := by
 unfold i_SetOf at h
 refine runsR [.tmp 6] Tryd.func21 rfl rfl rfl rfl ?_
 rw [Tryd.ntmps21]
 refine tri_sr ?_
 refine s_mv (.inr rfl) (v := .nils) rfl rfl rfl rfl ?_
 refine rt_nil ?_
 refine tri_sr ?_
 refine s_buildSlice (rows' := List.map recV ([] : List Rec)) rfl rfl rfl sl24 zc39 rfl rfl rfl rfl rfl rfl rfl rfl rfl ?_
 refine m2 ?_
 refine rt_nil ?_
 refine tri_seq ?_
 refine tri_sr ?_
 refine m1 ?_
 refine s_lenL rfl sl24 rfl rfl rfl rfl ?_
 refine s_mv (.inl rfl) (v := .sc (.int .i64 0)) rfl rfl rfl rfl ?_
 refine rt_nil ?_
 refine tri_block ?_
 refine tri_lstM 0 rfl (fun hl0 => ?_)
 refine tri_loop (ι := { p : (List Rec) × (List Rec) × Nat // p0.drop p.2.2 = p.1 ∧ i_SetOf_l0 p1 p2 p.1 p.2.1 p.2.2 = some r0 }) (fun p => inv_i_SetOf_0 p0 p1 p2 p.1.2.1 p.1.2.2) (fun p => p.1.1.length) ⟨(p0, ([] : List Rec), 0), rfl, h⟩ ?_ ?_
 ·skip
  refine entX [((2007, 0), ⟨39, 6, List.map recV ([] : List Rec), false, true⟩, some (10, 0))] [] ⟨⟨rfl, _, rfl, rfl, rfl, rfl, id, rowsCv_eq rfl (allFree_map recV_free), rowsZ_map recV_len⟩, trivial⟩ trivial rfl rfl ?_
  exact ⟨(.free rfl), (.free rfl), (.ref rfl), (.free rfl), (.free rfl), (.free rfl), trivial⟩
 ·rintro ⟨⟨lrs0, v0_0, v0_1⟩, hd0, h⟩
  replace hd0 : p0.drop v0_1 = lrs0 := hd0
  replace h : i_SetOf_l0 p1 p2 lrs0 v0_0 v0_1 = some r0 := h
  show Tri _ _ _ (inv_i_SetOf_0 p0 p1 p2 v0_0 v0_1)
  refine tri_sr ?_
  refine s_of (st_lss rfl rfl rfl) rfl rfl rfl rfl ?_
  refine rt_nil ?_
  refine tri_seq ?_
  refine tri_cond rfl (fun c1 => ?_) (fun c1 => ?_)
  ·refine drop_elim hd0 c1 fun e0 rs0 he hx0 hn0 => ?_
   subst he
   rw [i_SetOf_l0] at h
   refine tri_skip ?_
   refine tri_seq ?_
   refine tri_block ?_
   refine tri_sr ?_
   refine s_indexF (i := v0_1) rfl rfl rfl sl24 (get_ltM hx0) rfl rfl rfl ?_
   refine s_loadFR rfl rfl (rowG hx0) ty39 rfl rfl rfl ?_
   refine s_alloc rfl rfl rfl zc39 rfl rfl rfl rfl rfl ?_
   refine s_storeB rfl rfl rfl ty39 rfl rfl rfl rfl rfl ?_
   refine rt_nil ?_
   refine tri_cutI (ι := { p : Bool // i_SetOf_j1 v0_0 v0_1 e0 (i_SetOf_l0 p1 p2 rs0) p = some r0 }) (fun p => inv_i_SetOf_1 p0 p1 p2 v0_0 v0_1 e0 p.1) ?_ ?_
   ·skip
    refine tri_region ?_
    refine s_fieldAddr rfl rfl fd39_0 rfl rfl rfl rfl ?_
    refine s_load rfl rfl rfl rfl ty9 rfl (.inr rfl) (by conv => lhs; whnf) rfl rfl rfl ?_
    refine m1 ?_
    refine s_of (st_eqS rfl rfl rfl) rfl rfl rfl rfl ?_
    refine m1 ?_
    refine s_split (t := 21) rfl (fun b2 => ?_) (fun b2 => ?_)
    ·replace h := cond_t h b2
     refine s_fieldAddr rfl rfl fd39_1 rfl rfl rfl rfl ?_
     refine s_load rfl rfl rfl rfl ty3 rfl (.inr rfl) (by conv => lhs; whnf) rfl rfl rfl ?_
     refine m1 ?_
     refine s_of (st_eqI rfl rfl rfl) rfl rfl rfl rfl ?_
     refine s_pickT rfl rfl (by conv => lhs; whnf) rfl rfl rfl ?_
     refine rt_nil ?_
     refine Exists.intro ⟨decide (e0.ty = p2), h⟩ ?_
     refine entX [((2007, 0), ⟨39, 6, List.map recV v0_0, false, true⟩, some (2007, 0)), ((9, 0), ⟨39, 6, [[.sc (.string e0.name), .sc (.int .i64 e0.ty), .sc (.int .i64 e0.ttl), .sc (.int .i64 e0.n), .sc (.string e0.host), .sc (.string e0.text)]], false, true⟩, some (9, 0))] [] ⟨⟨rfl, _, rfl, rfl, rfl, rfl, id, rowsCv_eq rfl (allFree_map recV_free), rowsZ_map recV_len⟩, ⟨rfl, _, rfl, rfl, rfl, rfl, id, rowsCv_one (.cons (.free rfl) (.cons (.free rfl) (.cons (.free rfl) (.cons (.free rfl) (.cons (.free rfl) (.cons (.free rfl) .nil)))))), rowsZ_one rfl⟩, trivial⟩ trivial rfl rfl ?_
     exact ⟨(.free rfl), (.free rfl), (.ref rfl), (.ptr rfl), (.free rfl), (.free rfl), (.free rfl), (.free rfl), trivial⟩
    ·replace h := cond_f h b2
     refine s_skip rfl rfl rfl ?_
     refine s_skip rfl rfl rfl ?_
     refine s_skip rfl rfl rfl ?_
     refine s_skip rfl rfl rfl ?_
     refine s_pickF rfl rfl (v := .sc (.bool false)) rfl rfl rfl rfl ?_
     refine rt_nil ?_
     refine Exists.intro ⟨false, h⟩ ?_
     refine entX [((2007, 0), ⟨39, 6, List.map recV v0_0, false, true⟩, some (2007, 0)), ((9, 0), ⟨39, 6, [[.sc (.string e0.name), .sc (.int .i64 e0.ty), .sc (.int .i64 e0.ttl), .sc (.int .i64 e0.n), .sc (.string e0.host), .sc (.string e0.text)]], false, true⟩, some (9, 0))] [] ⟨⟨rfl, _, rfl, rfl, rfl, rfl, id, rowsCv_eq rfl (allFree_map recV_free), rowsZ_map recV_len⟩, ⟨rfl, _, rfl, rfl, rfl, rfl, id, rowsCv_one (.cons (.free rfl) (.cons (.free rfl) (.cons (.free rfl) (.cons (.free rfl) (.cons (.free rfl) (.cons (.free rfl) .nil)))))), rowsZ_one rfl⟩, trivial⟩ trivial rfl rfl ?_
     exact ⟨(.free rfl), (.free rfl), (.ref rfl), (.ptr rfl), (.free rfl), (.free rfl), (.free rfl), (.free rfl), trivial⟩
   ·rintro ⟨j1_0, h⟩
    replace h : i_SetOf_j1 v0_0 v0_1 e0 (i_SetOf_l0 p1 p2 rs0) j1_0 = some r0 := h
    unfold i_SetOf_j1 at h
    show Tri _ _ _ (inv_i_SetOf_1 p0 p1 p2 v0_0 v0_1 e0 j1_0)
    refine tri_cond rfl (fun c2 => ?_) (fun c2 => ?_)
    ·replace h := cond_t h c2
     refine tri_region ?_
     refine m1 ?_
     refine s_loadR rfl rfl rfl rfl ty39 rfl rfl rfl ?_
     refine s_buildSlice (rows' := List.map recV [e0]) rfl rfl rfl sl24 zc39 rfl rfl rfl rfl rfl rfl rfl rfl rfl ?_
     refine grd_elim h fun g3 h => ?_
     refine s_appL rfl rfl rfl sl24 zc39 rfl rfl rfl rfl rfl rfl (src_refL rfl rfl) g3 rfl rfl ?_
     refine m2 ?_
     refine rt_nil ?_
     refine tri_region ?_
     refine s_inc (a := v0_1) (b := 1) rfl rfl rfl rfl (by have := get_lt hx0; have := hl0; omega) rfl rfl rfl ?_
     refine m1 ?_
     refine rt_nil ?_
     refine Exists.intro ⟨(rs0, v0_0 ++ [e0], (v0_1 + 1)), hn0, h⟩ (And.intro (Nat.lt_succ_self _) ?_)
     refine entX [((2007, 0), ⟨39, 6, List.map recV (v0_0 ++ [e0]), false, true⟩, some (30, 0))] [] ⟨⟨rfl, _, rfl, rfl, rfl, rfl, id, rowsCv_eq rfl (allFree_map recV_free), rowsZ_map recV_len⟩, trivial⟩ trivial rfl rfl ?_
     exact ⟨(.free rfl), (.free rfl), (.ref rfl), (.free rfl), (.free rfl), (.free rfl), trivial⟩
    ·replace h := cond_f h c2
     refine tri_skip ?_
     refine tri_region ?_
     refine s_inc (a := v0_1) (b := 1) rfl rfl rfl rfl (by have := get_lt hx0; have := hl0; omega) rfl rfl rfl ?_
     refine m1 ?_
     refine rt_nil ?_
     refine Exists.intro ⟨(rs0, v0_0, (v0_1 + 1)), hn0, h⟩ (And.intro (Nat.lt_succ_self _) ?_)
     refine entX [((2007, 0), ⟨39, 6, List.map recV v0_0, false, true⟩, some (2007, 0))] [] ⟨⟨rfl, _, rfl, rfl, rfl, rfl, id, rowsCv_eq rfl (allFree_map recV_free), rowsZ_map recV_len⟩, trivial⟩ trivial rfl rfl ?_
     exact ⟨(.free rfl), (.free rfl), (.ref rfl), (.free rfl), (.free rfl), (.free rfl), trivial⟩
  ·have he := drop_f hd0 c1; subst he
   rw [i_SetOf_l0] at h
   refine tri_exit ?_
   refine tri_sr ?_
   refine m1 ?_
   refine m2 ?_
   refine rt_nil ?_
   refine tri_ret ?_
   have e0 := (some1 h); subst e0
   exact endY (v' := .ref (2000, 0) 0 v0_0.length) [((2000, 0), ⟨39, 6, List.map recV v0_0, false, true⟩, some (2007, 0))] [] (rvC (resTmp rfl) rvN) ⟨⟨rfl, _, rfl, rfl, rfl, rfl, id, rowsCv_eq rfl (allFree_map recV_free), rowsZ_map recV_len⟩, trivial⟩ trivial rfl rfl (by kernel_rfl) (by simp only [V.mat, V.mat1, V.mat0, matL, matT, List.length_map] <;> rfl) (.ref rfl)

/- impl.Record] -/
def inv_slices_IndexFunc_Record_0 (p0 : List Rec) (fi1 : FuncId) (cp1 : List V) (v0_0 : Nat) : St := mkT 19 [(0, .lst 6 (List.map recV p0)), (1, .fn fi1 cp1), (7, .sc (.int .i64 (p0.length : Int))), (8, .sc (.int .i64 (v0_0 : Int)))] []
set_option maxRecDepth 4000 in
set_option maxHeartbeats 800000 in
theorem wslices_IndexFunc_Record (p0 : List Rec) (fi1 : FuncId) (cp1 : List V) (hf1 : cp1.all (·.free) = true) (hb1 : callable Tryd.prog fi1 = true) (p1 : Rec → Option Bool) (hg1 : ∀ (z0 : Rec) v, p1 z0 = some v → Runs Tryd.prog fi1 ([.agg (recV z0)] ++ cp1) [] (.sc (.bool v)) []) (r0 : Int) (h : slices_IndexFunc_Record p0 p1 = some r0) : Runs Tryd.prog 152 [.lst 6 (List.map recV p0), .fn fi1 cp1] [] (.sc (.int .i64 r0)) [] := by
 unfold slices_IndexFunc_Record at h
 refine runsR [.tmp 4] Tryd.func152 rfl rfl rfl rfl ?_
 rw [Tryd.ntmps152]
 refine tri_sr ?_
 refine s_mv (.inr rfl) (v := .sc (.int .i64 0)) rfl rfl rfl rfl ?_
 refine rt_nil ?_
 refine tri_seq ?_
 refine tri_sr ?_
 refine m1 ?_
 refine s_lenL rfl sl24 rfl rfl rfl rfl ?_
 refine s_mv (.inl rfl) (v := .sc (.int .i64 0)) rfl rfl rfl rfl ?_
 refine rt_nil ?_
 refine tri_block ?_
 refine tri_lstM 0 rfl (fun hl0 => ?_)
 refine tri_loop (ι := { p : (List Rec) × Nat // p0.drop p.2 = p.1 ∧ slices_IndexFunc_Record_l0 p1 p.1 p.2 = some r0 }) (fun p => inv_slices_IndexFunc_Record_0 p0 fi1 cp1 p.1.2) (fun p => p.1.1.length) ⟨(p0, 0), rfl, h⟩ ?_ ?_
 ·skip
  refine entX [] [] trivial trivial rfl rfl ?_
  exact ⟨(.free rfl), (cvFn hf1), (.free rfl), (.free rfl), trivial⟩
 ·rintro ⟨⟨lrs0, v0_0⟩, hd0, h⟩
  replace hd0 : p0.drop v0_0 = lrs0 := hd0
  replace h : slices_IndexFunc_Record_l0 p1 lrs0 v0_0 = some r0 := h
  show Tri _ _ _ (inv_slices_IndexFunc_Record_0 p0 fi1 cp1 v0_0)
  refine tri_sr ?_
  refine s_of (st_lss rfl rfl rfl) rfl rfl rfl rfl ?_
  refine rt_nil ?_
  refine tri_seq ?_
  refine tri_cond rfl (fun c1 => ?_) (fun c1 => ?_)
  ·refine drop_elim hd0 c1 fun e0 rs0 he hx0 hn0 => ?_
   subst he
   rw [slices_IndexFunc_Record_l0] at h
   refine tri_skip ?_
   refine tri_seq ?_
   refine tri_block ?_
   refine tri_sr ?_
   refine m1 ?_
   refine m2 ?_
   refine rt_nil ?_
   refine tri_sr ?_
   refine m1 ?_
   refine m1 ?_
   refine m1 ?_
   refine s_indexF (i := v0_0) rfl rfl rfl sl24 (get_ltM hx0) rfl rfl rfl ?_
   refine s_loadFR rfl rfl (rowG hx0) ty39 rfl rfl rfl ?_
   refine bnd1_elim h fun x2 q3 h => ?_
   refine s_callN (kb := []) (ns := []) (v := .sc (.bool x2)) rfl rfl hb1 (hg1 e0 x2 q3) rfl (.cons (relAgg rfl) (argsFree hf1)) trivial memNil .nil memNil rfl trivial memNil rfl rfl rfl rfl rfl rfl ?_
   refine rt_nil ?_
   refine tri_cond rfl (fun c4 => ?_) (fun c4 => ?_)
   ·replace h := cond_t h c4
    refine tri_sr ?_
    refine m1 ?_
    refine m2 ?_
    refine rt_nil ?_
    refine tri_ret ?_
    have e0 := (some1 h); subst e0
    exact endY [] [] (rvC (resTmp rfl) rvN) trivial trivial rfl rfl rfl rfl (.free rfl)
   ·replace h := cond_f h c4
    refine tri_skip ?_
    refine tri_region ?_
    refine s_inc (a := v0_0) (b := 1) rfl rfl rfl rfl (by have := get_lt hx0; have := hl0; omega) rfl rfl rfl ?_
    refine m1 ?_
    refine rt_nil ?_
    refine Exists.intro ⟨(rs0, (v0_0 + 1)), hn0, h⟩ (And.intro (Nat.lt_succ_self _) ?_)
    refine entX [] [] trivial trivial rfl rfl ?_
    exact ⟨(.free rfl), (cvFn hf1), (.free rfl), (.free rfl), trivial⟩
  ·have he := drop_f hd0 c1; subst he
   rw [slices_IndexFunc_Record_l0] at h
   refine tri_exit ?_
   refine tri_sr ?_
   refine s_mv (.inr rfl) (v := .sc (.int .i64 (-1))) rfl rfl rfl rfl ?_
   refine rt_nil ?_
   refine tri_ret ?_
   have e0 := (some1 h); subst e0
   exact endY [] [] (rvC (resTmp rfl) rvN) trivial trivial rfl rfl rfl rfl (.free rfl)

/- impl.Record] -/

set_option maxRecDepth 4000 in
set_option maxHeartbeats 800000 in
theorem wslices_ContainsFunc_Record (p0 : List Rec) (fi1 : FuncId) (cp1 : List V) (hf1 : cp1.all (·.free) = true) (hb1 : callable Tryd.prog fi1 = true) (p1 : Rec → Option Bool) (hg1 : ∀ (z0 : Rec) v, p1 z0 = some v → Runs Tryd.prog fi1 ([.agg (recV z0)] ++ cp1) [] (.sc (.bool v)) []) (r0 : Bool) (h : slices_ContainsFunc_Record p0 p1 = some r0) : Runs Tryd.prog 98 [.lst 6 (List.map recV p0), .fn fi1 cp1] [] (.sc (.bool r0)) [] := by
 unfold slices_ContainsFunc_Record at h
 refine runsR [.tmp 4] Tryd.func98 rfl rfl rfl rfl ?_
 rw [Tryd.ntmps98]
 refine tri_sr ?_
 refine s_mv (.inr rfl) (v := .sc (.bool false)) rfl rfl rfl rfl ?_
 refine rt_nil ?_
 refine tri_sr ?_
 refine m1 ?_
 refine m1 ?_
 refine bnd1_elim h fun x1 q2 h => ?_
 refine s_callN (kb := []) (ns := []) (v := .sc (.int .i64 x1)) rfl rfl cl152 (wslices_IndexFunc_Record p0 fi1 cp1 hf1 hb1 p1 hg1 x1 q2) rfl (.cons (.free rfl) (.cons (relFn hf1) .nil)) trivial memNil .nil memNil rfl trivial memNil rfl rfl rfl rfl rfl rfl ?_
 refine s_of (st_geq rfl rfl rfl) rfl rfl rfl rfl ?_
 refine m2 ?_
 refine rt_nil ?_
 refine tri_ret ?_
 have e0 := (some1 h); subst e0
 exact endY [] [] (rvC (resTmp rfl) rvN) trivial trivial rfl rfl rfl rfl (.free rfl)

/- impl.Exists$1 -/

set_option maxRecDepth 4000 in
set_option maxHeartbeats 800000 in
theorem wi_Exists_1 (p0 : Rec) (p1 : ByteArray) (r0 : Bool) (h : i_Exists_1 p0 p1 = some r0) : Runs Tryd.prog 99 [.agg (recV p0), .lptr 1 [[.sc (.string p1)]] 0 0] [] (.sc (.bool r0)) [] := by
 unfold i_Exists_1 at h
 refine runsR [.tmp 3] Tryd.func99 rfl rfl rfl rfl ?_
 rw [Tryd.ntmps99]
 refine tri_sr ?_
 refine s_box rfl rfl rfl rfl rfl rfl rfl ?_
 refine s_mv (.inr rfl) (v := .sc (.bool false)) rfl rfl rfl rfl ?_
 refine rt_nil ?_
 refine tri_sr ?_
 refine s_fieldAddr rfl rfl fd39_0 rfl rfl rfl rfl ?_
 refine s_load rfl rfl rfl rfl ty9 rfl (.inr rfl) (by conv => lhs; whnf) rfl rfl rfl ?_
 refine s_loadF rfl rfl rfl ty9 rfl (.inr rfl) (by conv => lhs; whnf) rfl rfl rfl ?_
 refine bnd1_elim h fun x1 q2 h => ?_
 refine s_callN (kb := []) (ns := []) (v := .sc (.bool x1)) rfl rfl cl17 (wi_Under p0.name p1 x1 q2) rfl (.cons (.free rfl) (.cons (.free rfl) .nil)) trivial memNil .nil memNil rfl trivial memNil rfl rfl rfl rfl rfl rfl ?_
 refine m2 ?_
 refine rt_nil ?_
 refine tri_ret ?_
 have e0 := (some1 h); subst e0
 exact endY [] [] (rvC (resTmp rfl) rvN) trivial trivial rfl rfl rfl rfl (.free rfl)

/- impl.Exists -/

set_option maxRecDepth 4000 in
set_option maxHeartbeats 800000 in
theorem wi_Exists (p0 : MZone) (p1 : ByteArray) (r0 : Bool) (h : i_Exists p0 p1 = some r0) : Runs Tryd.prog 18 [.agg (mZoneV p0), .sc (.string p1)] [] (.sc (.bool r0)) [] := by
 unfold i_Exists at h
 refine runsR [.tmp 4] Tryd.func18 rfl rfl rfl rfl ?_
 rw [Tryd.ntmps18]
 refine tri_sr ?_
 refine s_box rfl rfl rfl rfl rfl rfl rfl ?_
 refine s_box rfl rfl rfl rfl rfl rfl rfl ?_
 refine s_mv (.inr rfl) (v := .sc (.bool false)) rfl rfl rfl rfl ?_
 refine rt_nil ?_
 refine tri_sr ?_
 refine s_fieldAddr rfl rfl fd26_1 rfl rfl rfl rfl ?_
 refine s_load rfl rfl rfl rfl ty24 rfl (.inr rfl) (by conv => lhs; whnf) rfl rfl rfl ?_
 refine s_makeFunc (caps := [.ptr (3, 0) 0 0]) rfl rfl rfl rfl rfl ?_
 refine bnd1_elim h fun x1 q2 h => ?_
 refine s_callN (kb := [(3, 0)]) (ns := []) (v := .sc (.bool x1)) rfl rfl cl98 (wslices_ContainsFunc_Record p0.l 99 ([.lptr 1 [[.sc (.string p1)]] 0 0]) rfl cl99 (fun a0 => i_Exists_1 a0 p1) (fun a0 v0 hv => wi_Exists_1 a0 p1 v0 hv) x1 q2) rfl (.cons (.free rfl) (.cons (relFnL rfl (.cons (relBoxL rfl (.head _) (.cons (.free rfl) .nil) rfl rfl) .nil)) .nil)) trivial memNil .nil (fun _ _ => List.not_mem_nil) rfl trivial memNil rfl rfl rfl rfl rfl rfl ?_
 refine m2 ?_
 refine rt_nil ?_
 refine tri_ret ?_
 have e0 := (some1 h); subst e0
 exact endY [] [] (rvC (resTmp rfl) rvN) trivial trivial rfl rfl rfl rfl (.free rfl)

/- impl.KindIn -/
def inv_i_KindIn_0 (p0 : MZone) (p1 : Quest) (j0_0 : Bool) : St := mkT 51 [(2, .ptr (2, 0) 0 0), (3, .ptr (3, 0) 0 0), (23, .sc (.bool j0_0))] [((2, 0), some ⟨26, 2, [[.sc (.string p0.apex), .lst 6 (List.map recV p0.l)]], false, true⟩), ((3, 0), some ⟨28, 2, [[.sc (.string p1.name), .sc (.int .i64 p1.ty)]], false, true⟩)]
set_option maxRecDepth 4000 in
set_option maxHeartbeats 800000 in
theorem wi_KindIn (p0 : MZone) (p1 : Quest) (r0 : Int) (h : i_KindIn p0 p1 = some r0) : Runs Tryd.prog 27 [.agg (mZoneV p0), .agg (questV p1)] [] (.sc (.int .i64 r0)) [] := by
 unfold i_KindIn at h
 refine runsR [.tmp 4] Tryd.func27 rfl rfl rfl rfl ?_
 rw [Tryd.ntmps27]
 refine tri_sr ?_
 refine s_box rfl rfl rfl rfl rfl rfl rfl ?_
 refine s_box rfl rfl rfl rfl rfl rfl rfl ?_
 refine s_mv (.inr rfl) (v := .sc (.int .i64 0)) rfl rfl rfl rfl ?_
 refine rt_nil ?_
 refine tri_sr ?_
 refine s_loadR rfl rfl rfl rfl ty26 rfl rfl rfl ?_
 refine s_fieldAddr rfl rfl fd28_0 rfl rfl rfl rfl ?_
 refine s_load rfl rfl rfl rfl ty9 rfl (.inr rfl) (by conv => lhs; whnf) rfl rfl rfl ?_
 refine bnd2_elim h fun x1 x2 q3 h => ?_
 refine s_callN (kb := []) (ns := []) (v := .tup [.sc (.string x1), .sc (.bool x2)]) rfl rfl cl13 (wi_CutOf p0 p1.name x1 x2 q3) rfl (.cons (relAgg rfl) (.cons (.free rfl) .nil)) trivial memNil .nil memNil rfl trivial memNil rfl rfl rfl rfl rfl rfl ?_
 refine m1 ?_
 refine s_extract rfl rfl rfl rfl rfl rfl ?_
 refine s_extract rfl rfl rfl rfl rfl rfl ?_
 refine m2 ?_
 refine m2 ?_
 refine rt_nil ?_
 refine tri_seq ?_
 refine tri_block ?_
 refine tri_sr ?_
 refine s_fieldAddr rfl rfl fd28_0 rfl rfl rfl rfl ?_
 refine s_load rfl rfl rfl rfl ty9 rfl (.inr rfl) (by conv => lhs; whnf) rfl rfl rfl ?_
 refine s_fieldAddr rfl rfl fd26_0 rfl rfl rfl rfl ?_
 refine s_load rfl rfl rfl rfl ty9 rfl (.inr rfl) (by conv => lhs; whnf) rfl rfl rfl ?_
 refine bnd1_elim h fun x4 q5 h => ?_
 refine s_callN (kb := []) (ns := []) (v := .sc (.bool x4)) rfl rfl cl17 (wi_Under p1.name p0.apex x4 q5) rfl (.cons (.free rfl) (.cons (.free rfl) .nil)) trivial memNil .nil memNil rfl trivial memNil rfl rfl rfl rfl rfl rfl ?_
 refine s_of (st_not rfl rfl) rfl rfl rfl rfl ?_
 refine m2 ?_
 refine rt_nil ?_
 refine tri_cond rfl (fun c6 => ?_) (fun c6 => ?_)
 ·replace h := cond_t h c6
  refine tri_sr ?_
  refine s_mv (.inr rfl) (v := .sc (.int .i64 0)) rfl rfl rfl rfl ?_
  refine rt_nil ?_
  refine tri_ret ?_
  have e0 := (some1 h); subst e0
  exact endY [] [] (rvC (resTmp rfl) rvN) trivial trivial rfl rfl rfl rfl (.free rfl)
 ·replace h := cond_f h c6
  refine tri_sr ?_
  refine m1 ?_
  refine m2 ?_
  refine rt_nil ?_
  refine tri_cond rfl (fun c7 => ?_) (fun c7 => ?_)
  ·replace h := cond_t h c7
   refine tri_sr ?_
   refine s_mv (.inr rfl) (v := .sc (.int .i64 1)) rfl rfl rfl rfl ?_
   refine rt_nil ?_
   refine tri_ret ?_
   have e0 := (some1 h); subst e0
   exact endY [] [] (rvC (resTmp rfl) rvN) trivial trivial rfl rfl rfl rfl (.free rfl)
  ·replace h := cond_f h c7
   refine tri_cutI (ι := { p : Bool // i_KindIn_j0 p0 p1 p = some r0 }) (fun p => inv_i_KindIn_0 p0 p1 p.1) ?_ ?_
   ·skip
    refine tri_region ?_
    refine s_fieldAddr rfl rfl fd28_1 rfl rfl rfl rfl ?_
    refine s_load rfl rfl rfl rfl ty3 rfl (.inr rfl) (by conv => lhs; whnf) rfl rfl rfl ?_
    refine s_of (st_neI rfl rfl rfl) rfl rfl rfl rfl ?_
    refine m1 ?_
    refine s_split (t := 27) rfl (fun b8 => ?_) (fun b8 => ?_)
    ·replace h := cond_t h b8
     refine s_fieldAddr rfl rfl fd26_1 rfl rfl rfl rfl ?_
     refine s_load rfl rfl rfl rfl ty24 rfl (.inr rfl) (by conv => lhs; whnf) rfl rfl rfl ?_
     refine s_fieldAddr rfl rfl fd28_0 rfl rfl rfl rfl ?_
     refine s_load rfl rfl rfl rfl ty9 rfl (.inr rfl) (by conv => lhs; whnf) rfl rfl rfl ?_
     refine bnd1_elim h fun x9 q10 h => ?_
     refine s_callN (kb := []) (ns := []) (v := .ref (32, 0) 0 x9.length) rfl rfl cl21 (wi_SetOf p0.l p1.name 5 x9 q10) rfl (.cons (.free rfl) (.cons (.free rfl) (.cons (.free rfl) .nil))) trivial memNil .nil memNil rfl ⟨(allSc_map recV_sc), trivial⟩ memNil rfl (by simp only [V.mat, V.mat1, V.mat0, matL, matT, List.length_map] <;> rfl) rfl rfl rfl rfl ?_
     refine s_len (m := x9.length) rfl sl24 rfl rfl rfl rfl ?_
     refine s_of (st_gtr rfl rfl rfl) rfl rfl rfl rfl ?_
     refine s_pickT rfl rfl (by conv => lhs; whnf) rfl rfl rfl ?_
     refine m2 ?_
     refine rt_nil ?_
     refine Exists.intro ⟨decide (0 < (x9.length : Int)), h⟩ ?_
     refine entX [((2, 0), ⟨26, 2, [[.sc (.string p0.apex), .lst 6 (List.map recV p0.l)]], false, true⟩, some (2, 0)), ((3, 0), ⟨28, 2, [[.sc (.string p1.name), .sc (.int .i64 p1.ty)]], false, true⟩, some (3, 0))] [] ⟨⟨rfl, _, rfl, rfl, rfl, rfl, id, rowsCv_one (.cons (.free rfl) (.cons (.free rfl) .nil)), rowsZ_one rfl⟩, ⟨rfl, _, rfl, rfl, rfl, rfl, id, rowsCv_one (.cons (.free rfl) (.cons (.free rfl) .nil)), rowsZ_one rfl⟩, trivial⟩ trivial rfl rfl ?_
     exact ⟨(.ptr rfl), (.ptr rfl), (.free rfl), trivial⟩
    ·replace h := cond_f h b8
     refine s_skip rfl rfl rfl ?_
     refine s_skip rfl rfl rfl ?_
     refine s_skip rfl rfl rfl ?_
     refine s_skip rfl rfl rfl ?_
     refine s_skip rfl rfl rfl ?_
     refine s_skip rfl rfl rfl ?_
     refine s_skip rfl rfl rfl ?_
     refine s_pickF rfl rfl (v := .sc (.bool false)) rfl rfl rfl rfl ?_
     refine m2 ?_
     refine rt_nil ?_
     refine Exists.intro ⟨false, h⟩ ?_
     refine entX [((2, 0), ⟨26, 2, [[.sc (.string p0.apex), .lst 6 (List.map recV p0.l)]], false, true⟩, some (2, 0)), ((3, 0), ⟨28, 2, [[.sc (.string p1.name), .sc (.int .i64 p1.ty)]], false, true⟩, some (3, 0))] [] ⟨⟨rfl, _, rfl, rfl, rfl, rfl, id, rowsCv_one (.cons (.free rfl) (.cons (.free rfl) .nil)), rowsZ_one rfl⟩, ⟨rfl, _, rfl, rfl, rfl, rfl, id, rowsCv_one (.cons (.free rfl) (.cons (.free rfl) .nil)), rowsZ_one rfl⟩, trivial⟩ trivial rfl rfl ?_
     exact ⟨(.ptr rfl), (.ptr rfl), (.free rfl), trivial⟩
   ·rintro ⟨j0_0, h⟩
    replace h : i_KindIn_j0 p0 p1 j0_0 = some r0 := h
    unfold i_KindIn_j0 at h
    show Tri _ _ _ (inv_i_KindIn_0 p0 p1 j0_0)
    refine tri_cond rfl (fun c8 => ?_) (fun c8 => ?_)
    ·replace h := cond_t h c8
     refine tri_sr ?_
     refine s_mv (.inr rfl) (v := .sc (.int .i64 2)) rfl rfl rfl rfl ?_
     refine rt_nil ?_
     refine tri_ret ?_
     have e0 := (some1 h); subst e0
     exact endY [] [] (rvC (resTmp rfl) rvN) trivial trivial rfl rfl rfl rfl (.free rfl)
    ·replace h := cond_f h c8
     refine tri_sr ?_
     refine s_fieldAddr rfl rfl fd26_1 rfl rfl rfl rfl ?_
     refine s_load rfl rfl rfl rfl ty24 rfl (.inr rfl) (by conv => lhs; whnf) rfl rfl rfl ?_
     refine s_fieldAddr rfl rfl fd28_0 rfl rfl rfl rfl ?_
     refine s_load rfl rfl rfl rfl ty9 rfl (.inr rfl) (by conv => lhs; whnf) rfl rfl rfl ?_
     refine s_fieldAddr rfl rfl fd28_1 rfl rfl rfl rfl ?_
     refine s_load rfl rfl rfl rfl ty3 rfl (.inr rfl) (by conv => lhs; whnf) rfl rfl rfl ?_
     refine bnd1_elim h fun x9 q10 h => ?_
     refine s_callN (kb := []) (ns := []) (v := .ref (43, 0) 0 x9.length) rfl rfl cl21 (wi_SetOf p0.l p1.name p1.ty x9 q10) rfl (.cons (.free rfl) (.cons (.free rfl) (.cons (.free rfl) .nil))) trivial memNil .nil memNil rfl ⟨(allSc_map recV_sc), trivial⟩ memNil rfl (by simp only [V.mat, V.mat1, V.mat0, matL, matT, List.length_map] <;> rfl) rfl rfl rfl rfl ?_
     refine s_len (m := x9.length) rfl sl24 rfl rfl rfl rfl ?_
     refine s_of (st_gtr rfl rfl rfl) rfl rfl rfl rfl ?_
     refine m2 ?_
     refine rt_nil ?_
     refine tri_cond rfl (fun c11 => ?_) (fun c11 => ?_)
     ·replace h := cond_t h c11
      refine tri_sr ?_
      refine s_mv (.inr rfl) (v := .sc (.int .i64 3)) rfl rfl rfl rfl ?_
      refine rt_nil ?_
      refine tri_ret ?_
      have e0 := (some1 h); subst e0
      exact endY [] [] (rvC (resTmp rfl) rvN) trivial trivial rfl rfl rfl rfl (.free rfl)
     ·replace h := cond_f h c11
      refine tri_sr ?_
      refine s_loadR rfl rfl rfl rfl ty26 rfl rfl rfl ?_
      refine s_fieldAddr rfl rfl fd28_0 rfl rfl rfl rfl ?_
      refine s_load rfl rfl rfl rfl ty9 rfl (.inr rfl) (by conv => lhs; whnf) rfl rfl rfl ?_
      refine bnd1_elim h fun x12 q13 h => ?_
      refine s_callN (kb := []) (ns := []) (v := .sc (.bool x12)) rfl rfl cl18 (wi_Exists p0 p1.name x12 q13) rfl (.cons (relAgg rfl) (.cons (.free rfl) .nil)) trivial memNil .nil memNil rfl trivial memNil rfl rfl rfl rfl rfl rfl ?_
      refine m2 ?_
      refine rt_nil ?_
      refine tri_cond rfl (fun c14 => ?_) (fun c14 => ?_)
      ·replace h := cond_t h c14
       refine tri_sr ?_
       refine s_mv (.inr rfl) (v := .sc (.int .i64 4)) rfl rfl rfl rfl ?_
       refine rt_nil ?_
       refine tri_ret ?_
       have e0 := (some1 h); subst e0
       exact endY [] [] (rvC (resTmp rfl) rvN) trivial trivial rfl rfl rfl rfl (.free rfl)
      ·replace h := cond_f h c14
       refine tri_skip ?_
       refine tri_sr ?_
       refine s_mv (.inr rfl) (v := .sc (.int .i64 5)) rfl rfl rfl rfl ?_
       refine rt_nil ?_
       refine tri_ret ?_
       have e0 := (some1 h); subst e0
       exact endY [] [] (rvC (resTmp rfl) rvN) trivial trivial rfl rfl rfl rfl (.free rfl)

/- impl.AnswerIn -/

set_option maxRecDepth 4000 in
set_option maxHeartbeats 800000 in
theorem wi_AnswerIn (p0 : MZone) (p1 : Quest) (r0 : List Rec) (h : i_AnswerIn p0 p1 = some r0) : Runs Tryd.prog 57 [.agg (mZoneV p0), .agg (questV p1)] [] (.own 39 6 (List.map recV r0)) [] := by
 unfold i_AnswerIn at h
 refine runsR [.tmp 4] Tryd.func57 rfl rfl rfl rfl ?_
 rw [Tryd.ntmps57]
 refine tri_sr ?_
 refine s_box rfl rfl rfl rfl rfl rfl rfl ?_
 refine s_box rfl rfl rfl rfl rfl rfl rfl ?_
 refine s_mv (.inr rfl) (v := .nils) rfl rfl rfl rfl ?_
 refine rt_nil ?_
 refine tri_seq ?_
 refine tri_sr ?_
 refine s_loadR rfl rfl rfl rfl ty26 rfl rfl rfl ?_
 refine s_loadR rfl rfl rfl rfl ty28 rfl rfl rfl ?_
 refine bnd1_elim h fun x1 q2 h => ?_
 refine s_callN (kb := []) (ns := []) (v := .sc (.int .i64 x1)) rfl rfl cl27 (wi_KindIn p0 p1 x1 q2) rfl (.cons (relAgg rfl) (.cons (relAgg rfl) .nil)) trivial memNil .nil memNil rfl trivial memNil rfl rfl rfl rfl rfl rfl ?_
 refine rt_nil ?_
 refine tri_block ?_
 refine tri_sr ?_
 refine s_of (st_eqI rfl rfl rfl) rfl rfl rfl rfl ?_
 refine m2 ?_
 refine rt_nil ?_
 refine tri_cond rfl (fun c3 => ?_) (fun c3 => ?_)
 ·replace h := cond_t h c3
  refine tri_sr ?_
  refine s_fieldAddr rfl rfl fd26_1 rfl rfl rfl rfl ?_
  refine s_load rfl rfl rfl rfl ty24 rfl (.inr rfl) (by conv => lhs; whnf) rfl rfl rfl ?_
  refine s_fieldAddr rfl rfl fd28_0 rfl rfl rfl rfl ?_
  refine s_load rfl rfl rfl rfl ty9 rfl (.inr rfl) (by conv => lhs; whnf) rfl rfl rfl ?_
  refine bnd1_elim h fun x4 q5 h => ?_
  refine s_callN (kb := []) (ns := []) (v := .ref (14, 0) 0 x4.length) rfl rfl cl21 (wi_SetOf p0.l p1.name 5 x4 q5) rfl (.cons (.free rfl) (.cons (.free rfl) (.cons (.free rfl) .nil))) trivial memNil .nil memNil rfl ⟨(allSc_map recV_sc), trivial⟩ memNil rfl (by simp only [V.mat, V.mat1, V.mat0, matL, matT, List.length_map] <;> rfl) rfl rfl rfl rfl ?_
  refine m2 ?_
  refine rt_nil ?_
  refine tri_ret ?_
  have e0 := (some1 h); subst e0
  exact endY (v' := .ref (2000, 0) 0 x4.length) [((2000, 0), ⟨39, 6, List.map recV x4, false, true⟩, some (14, 0))] [] (rvC (resTmp rfl) rvN) ⟨⟨rfl, _, rfl, rfl, rfl, rfl, id, rowsCv_eq rfl (allFree_map recV_free), rowsZ_map recV_len⟩, trivial⟩ trivial rfl rfl (by kernel_rfl) (by simp only [V.mat, V.mat1, V.mat0, matL, matT, List.length_map] <;> rfl) (.ref rfl)
 ·replace h := cond_f h c3
  refine tri_sr ?_
  refine s_of (st_eqI rfl rfl rfl) rfl rfl rfl rfl ?_
  refine m2 ?_
  refine rt_nil ?_
  refine tri_cond rfl (fun c6 => ?_) (fun c6 => ?_)
  ·replace h := cond_t h c6
   refine tri_sr ?_
   refine s_fieldAddr rfl rfl fd26_1 rfl rfl rfl rfl ?_
   refine s_load rfl rfl rfl rfl ty24 rfl (.inr rfl) (by conv => lhs; whnf) rfl rfl rfl ?_
   refine s_fieldAddr rfl rfl fd28_0 rfl rfl rfl rfl ?_
   refine s_load rfl rfl rfl rfl ty9 rfl (.inr rfl) (by conv => lhs; whnf) rfl rfl rfl ?_
   refine s_fieldAddr rfl rfl fd28_1 rfl rfl rfl rfl ?_
   refine s_load rfl rfl rfl rfl ty3 rfl (.inr rfl) (by conv => lhs; whnf) rfl rfl rfl ?_
   refine bnd1_elim h fun x7 q8 h => ?_
   refine s_callN (kb := []) (ns := []) (v := .ref (23, 0) 0 x7.length) rfl rfl cl21 (wi_SetOf p0.l p1.name p1.ty x7 q8) rfl (.cons (.free rfl) (.cons (.free rfl) (.cons (.free rfl) .nil))) trivial memNil .nil memNil rfl ⟨(allSc_map recV_sc), trivial⟩ memNil rfl (by simp only [V.mat, V.mat1, V.mat0, matL, matT, List.length_map] <;> rfl) rfl rfl rfl rfl ?_
   refine m2 ?_
   refine rt_nil ?_
   refine tri_ret ?_
   have e0 := (some1 h); subst e0
   exact endY (v' := .ref (2000, 0) 0 x7.length) [((2000, 0), ⟨39, 6, List.map recV x7, false, true⟩, some (23, 0))] [] (rvC (resTmp rfl) rvN) ⟨⟨rfl, _, rfl, rfl, rfl, rfl, id, rowsCv_eq rfl (allFree_map recV_free), rowsZ_map recV_len⟩, trivial⟩ trivial rfl rfl (by kernel_rfl) (by simp only [V.mat, V.mat1, V.mat0, matL, matT, List.length_map] <;> rfl) (.ref rfl)
  ·replace h := cond_f h c6
   refine tri_skip ?_
   refine tri_sr ?_
   refine s_mv (.inr rfl) (v := .nils) rfl rfl rfl rfl ?_
   refine rt_nil ?_
   refine tri_ret ?_
   have e0 := (some1 h); subst e0
   exact endY (v' := .ref (2000, 0) 0 (([] : List Rec).length)) [((2000, 0), ⟨39, 6, List.map recV ([] : List Rec), false, true⟩, none)] [] (rvC (resTmp rfl) rvN) ⟨rfl, trivial⟩ trivial rfl rfl (by kernel_rfl) (by simp only [V.mat, V.mat1, V.mat0, matL, matT, List.length_map] <;> rfl) (.nilRef rfl)

/- impl.some -/

set_option maxRecDepth 4000 in
set_option maxHeartbeats 800000 in
theorem wi_some (p0 : List Rec) (r0 : List Rec) (h : i_some p0 = some r0) : Runs Tryd.prog 105 [.lst 6 (List.map recV p0)] [] (.lst 6 (List.map recV r0)) [] := by
 unfold i_some at h
 refine runsR [.tmp 2] Tryd.func105 rfl rfl rfl rfl ?_
 rw [Tryd.ntmps105]
 refine tri_sr ?_
 refine s_mv (.inr rfl) (v := .nils) rfl rfl rfl rfl ?_
 refine rt_nil ?_
 refine tri_sr ?_
 refine m1 ?_
 refine m1 ?_
 refine s_lenL rfl sl24 rfl rfl rfl rfl ?_
 refine s_of (st_minI rfl rfl rfl) rfl rfl rfl rfl ?_
 refine grd_elim h fun g1 h => ?_
 refine s_sliceFZ (a := ((0 : Nat) : Int)) (b := (if 8 < (p0.length : Int) then 8 else (p0.length : Int))) rfl rfl sl24 rfl ⟨_, rfl⟩ g1 rfl rfl rfl ?_
 refine m2 ?_
 refine rt_nil ?_
 refine tri_ret ?_
 have e0 := (some1 h); subst e0
 exact endY [] [] (rvC (resTmp rfl) rvN) trivial trivial rfl rfl rfl rfl (.free rfl)

/- impl.firstOf -/
def inv_i_firstOf_1 (p0 : List Rec) (p1 : Int) (v1_0 : Nat) : St := mkT 20 [(1, .sc (.int .i64 p1)), (4, .ptr (4, 0) 0 0), (7, .lst 6 (List.map recV p0)), (8, .sc (.int .i64 (p0.length : Int))), (9, .sc (.int .i64 (v1_0 : Int)))] [((4, 0), some ⟨39, 6, [[.sc (.string (⟨#[]⟩ : ByteArray)), .sc (.int .i64 0), .sc (.int .i64 0), .sc (.int .i64 0), .sc (.string (⟨#[]⟩ : ByteArray)), .sc (.string (⟨#[]⟩ : ByteArray))]], false, true⟩)]
def inv_i_firstOf_0  : St := mkT 20 [(4, .ptr (4, 0) 0 0)] [((4, 0), some ⟨39, 6, [[.sc (.string (⟨#[]⟩ : ByteArray)), .sc (.int .i64 0), .sc (.int .i64 0), .sc (.int .i64 0), .sc (.string (⟨#[]⟩ : ByteArray)), .sc (.string (⟨#[]⟩ : ByteArray))]], false, true⟩)]
set_option maxRecDepth 4000 in
set_option maxHeartbeats 800000 in
theorem wi_firstOf (p0 : List Rec) (p1 : Int) (r0 : Rec) (h : i_firstOf p0 p1 = some r0) : Runs Tryd.prog 100 [.lst 6 (List.map recV p0), .sc (.int .i64 p1)] [] (.agg (recV r0)) [] := by
 unfold i_firstOf at h
 refine runsR [.cell 4 39] Tryd.func100 rfl rfl rfl rfl ?_
 rw [Tryd.ntmps100]
 refine tri_sr ?_
 refine s_alloc rfl rfl rfl zc39 rfl rfl rfl rfl rfl ?_
 refine rt_nil ?_
 refine tri_cutI (ι := { p : Unit // i_firstOf_j0 = some r0 }) (fun p => inv_i_firstOf_0) ?_ ?_
 ·skip
  refine tri_sr ?_
  refine m1 ?_
  refine s_lenL rfl sl24 rfl rfl rfl rfl ?_
  refine s_mv (.inl rfl) (v := .sc (.int .i64 0)) rfl rfl rfl rfl ?_
  refine rt_nil ?_
  refine tri_block ?_
  refine tri_lstM 0 rfl (fun hl1 => ?_)
  refine tri_loop (ι := { p : (List Rec) × Nat // p0.drop p.2 = p.1 ∧ i_firstOf_l1 p1 p.1 p.2 = some r0 }) (fun p => inv_i_firstOf_1 p0 p1 p.1.2) (fun p => p.1.1.length) ⟨(p0, 0), rfl, h⟩ ?_ ?_
  ·skip
   refine entX [((4, 0), ⟨39, 6, [[.sc (.string (⟨#[]⟩ : ByteArray)), .sc (.int .i64 0), .sc (.int .i64 0), .sc (.int .i64 0), .sc (.string (⟨#[]⟩ : ByteArray)), .sc (.string (⟨#[]⟩ : ByteArray))]], false, true⟩, some (4, 0))] [] ⟨⟨rfl, _, rfl, rfl, rfl, rfl, id, rowsCv_one (.cons (.free rfl) (.cons (.free rfl) (.cons (.free rfl) (.cons (.free rfl) (.cons (.free rfl) (.cons (.free rfl) .nil)))))), rowsZ_one rfl⟩, trivial⟩ trivial rfl rfl ?_
   exact ⟨(.free rfl), (.ptr rfl), (.free rfl), (.free rfl), (.free rfl), trivial⟩
  ·rintro ⟨⟨lrs1, v1_0⟩, hd1, h⟩
   replace hd1 : p0.drop v1_0 = lrs1 := hd1
   replace h : i_firstOf_l1 p1 lrs1 v1_0 = some r0 := h
   show Tri _ _ _ (inv_i_firstOf_1 p0 p1 v1_0)
   refine tri_sr ?_
   refine s_of (st_lss rfl rfl rfl) rfl rfl rfl rfl ?_
   refine rt_nil ?_
   refine tri_seq ?_
   refine tri_cond rfl (fun c1 => ?_) (fun c1 => ?_)
   ·refine drop_elim hd1 c1 fun e1 rs1 he hx1 hn1 => ?_
    subst he
    rw [i_firstOf_l1] at h
    refine tri_skip ?_
    refine tri_seq ?_
    refine tri_block ?_
    refine tri_sr ?_
    refine s_indexF (i := v1_0) rfl rfl rfl sl24 (get_ltM hx1) rfl rfl rfl ?_
    refine s_loadFR rfl rfl (rowG hx1) ty39 rfl rfl rfl ?_
    refine s_alloc rfl rfl rfl zc39 rfl rfl rfl rfl rfl ?_
    refine s_storeB rfl rfl rfl ty39 rfl rfl rfl rfl rfl ?_
    refine rt_nil ?_
    refine tri_sr ?_
    refine s_fieldAddr rfl rfl fd39_1 rfl rfl rfl rfl ?_
    refine s_load rfl rfl rfl rfl ty3 rfl (.inr rfl) (by conv => lhs; whnf) rfl rfl rfl ?_
    refine m1 ?_
    refine s_of (st_eqI rfl rfl rfl) rfl rfl rfl rfl ?_
    refine rt_nil ?_
    refine tri_cond rfl (fun c2 => ?_) (fun c2 => ?_)
    ·replace h := cond_t h c2
     refine tri_sr ?_
     refine s_loadR rfl rfl rfl rfl ty39 rfl rfl rfl ?_
     refine s_storeB rfl rfl rfl ty39 rfl rfl rfl rfl rfl ?_
     refine rt_nil ?_
     refine tri_ret ?_
     have e0 := (some1 h); subst e0
     exact endY [] [] (rvC (resCell rfl rfl ty39) rvN) trivial trivial rfl rfl rfl rfl (cvAgg rfl)
    ·replace h := cond_f h c2
     refine tri_skip ?_
     refine tri_region ?_
     refine s_inc (a := v1_0) (b := 1) rfl rfl rfl rfl (by have := get_lt hx1; have := hl1; omega) rfl rfl rfl ?_
     refine m1 ?_
     refine rt_nil ?_
     refine Exists.intro ⟨(rs1, (v1_0 + 1)), hn1, h⟩ (And.intro (Nat.lt_succ_self _) ?_)
     refine entX [((4, 0), ⟨39, 6, [[.sc (.string (⟨#[]⟩ : ByteArray)), .sc (.int .i64 0), .sc (.int .i64 0), .sc (.int .i64 0), .sc (.string (⟨#[]⟩ : ByteArray)), .sc (.string (⟨#[]⟩ : ByteArray))]], false, true⟩, some (4, 0))] [] ⟨⟨rfl, _, rfl, rfl, rfl, rfl, id, rowsCv_one (.cons (.free rfl) (.cons (.free rfl) (.cons (.free rfl) (.cons (.free rfl) (.cons (.free rfl) (.cons (.free rfl) .nil)))))), rowsZ_one rfl⟩, trivial⟩ trivial rfl rfl ?_
     exact ⟨(.free rfl), (.ptr rfl), (.free rfl), (.free rfl), (.free rfl), trivial⟩
   ·have he := drop_f hd1 c1; subst he
    rw [i_firstOf_l1] at h
    refine tri_exit ?_
    refine Exists.intro ⟨(), h⟩ ?_
    refine entX [((4, 0), ⟨39, 6, [[.sc (.string (⟨#[]⟩ : ByteArray)), .sc (.int .i64 0), .sc (.int .i64 0), .sc (.int .i64 0), .sc (.string (⟨#[]⟩ : ByteArray)), .sc (.string (⟨#[]⟩ : ByteArray))]], false, true⟩, some (4, 0))] [] ⟨⟨rfl, _, rfl, rfl, rfl, rfl, id, rowsCv_one (.cons (.free rfl) (.cons (.free rfl) (.cons (.free rfl) (.cons (.free rfl) (.cons (.free rfl) (.cons (.free rfl) .nil)))))), rowsZ_one rfl⟩, trivial⟩ trivial rfl rfl ?_
    exact ⟨(.ptr rfl), trivial⟩
 ·rintro ⟨u, h⟩
  replace h : i_firstOf_j0 = some r0 := h
  unfold i_firstOf_j0 at h
  show Tri _ _ _ (inv_i_firstOf_0)
  refine tri_sr ?_
  refine s_build (cells' := [.sc (.string (⟨#[]⟩ : ByteArray)), .sc (.int .i64 0), .sc (.int .i64 0), .sc (.int .i64 0), .sc (.string (⟨#[]⟩ : ByteArray)), .sc (.string (⟨#[]⟩ : ByteArray))]) rfl stc39 rfl rfl rfl rfl rfl rfl rfl ?_
  refine s_storeB rfl rfl rfl ty39 rfl rfl rfl rfl rfl ?_
  refine rt_nil ?_
  refine tri_ret ?_
  have e0 := (some1 h); subst e0
  exact endY [] [] (rvC (resCell rfl rfl ty39) rvN) trivial trivial rfl rfl rfl rfl (cvAgg rfl)

/- impl.StartOf -/

set_option maxRecDepth 4000 in
set_option maxHeartbeats 800000 in
theorem wi_StartOf (p0 : MZone) (r0 : Rec) (h : i_StartOf p0 = some r0) : Runs Tryd.prog 19 [.agg (mZoneV p0)] [] (.agg (recV r0)) [] := by
 unfold i_StartOf at h
 refine runsR [.cell 2 39] Tryd.func19 rfl rfl rfl rfl ?_
 rw [Tryd.ntmps19]
 refine tri_sr ?_
 refine s_box rfl rfl rfl rfl rfl rfl rfl ?_
 refine s_alloc rfl rfl rfl zc39 rfl rfl rfl rfl rfl ?_
 refine rt_nil ?_
 refine tri_sr ?_
 refine s_fieldAddr rfl rfl fd26_1 rfl rfl rfl rfl ?_
 refine s_load rfl rfl rfl rfl ty24 rfl (.inr rfl) (by conv => lhs; whnf) rfl rfl rfl ?_
 refine bnd1_elim h fun x1 q2 h => ?_
 refine s_callN (kb := []) (ns := []) (v := .agg (recV x1)) rfl rfl cl100 (wi_firstOf p0.l 6 x1 q2) rfl (.cons (.free rfl) (.cons (.free rfl) .nil)) trivial memNil .nil memNil rfl trivial memNil rfl rfl rfl rfl rfl rfl ?_
 refine s_storeB rfl rfl rfl ty39 rfl rfl rfl rfl rfl ?_
 refine rt_nil ?_
 refine tri_ret ?_
 have e0 := (some1 h); subst e0
 exact endY [] [] (rvC (resCell rfl rfl ty39) rvN) trivial trivial rfl rfl rfl rfl (cvAgg rfl)

/- impl.MoreIn -/
def inv_i_MoreIn_0 (p0 : MZone) (j0_0 : Bool) : St := mkT 29 [(2, .ptr (2, 0) 0 0), (23, .sc (.bool j0_0))] [((2, 0), some ⟨26, 2, [[.sc (.string p0.apex), .lst 6 (List.map recV p0.l)]], false, true⟩)]
set_option maxRecDepth 4000 in
set_option maxHeartbeats 800000 in
theorem wi_MoreIn (p0 : MZone) (p1 : Quest) (r0 : List Rec) (h : i_MoreIn p0 p1 = some r0) : Runs Tryd.prog 59 [.agg (mZoneV p0), .agg (questV p1)] [] (.own 39 6 (List.map recV r0)) [] := by
 unfold i_MoreIn at h
 refine runsR [.tmp 4] Tryd.func59 rfl rfl rfl rfl ?_
 rw [Tryd.ntmps59]
 refine tri_sr ?_
 refine s_box rfl rfl rfl rfl rfl rfl rfl ?_
 refine s_box rfl rfl rfl rfl rfl rfl rfl ?_
 refine s_mv (.inr rfl) (v := .nils) rfl rfl rfl rfl ?_
 refine rt_nil ?_
 refine tri_seq ?_
 refine tri_sr ?_
 refine s_loadR rfl rfl rfl rfl ty26 rfl rfl rfl ?_
 refine s_loadR rfl rfl rfl rfl ty28 rfl rfl rfl ?_
 refine bnd1_elim h fun x1 q2 h => ?_
 refine s_callN (kb := []) (ns := []) (v := .sc (.int .i64 x1)) rfl rfl cl27 (wi_KindIn p0 p1 x1 q2) rfl (.cons (relAgg rfl) (.cons (relAgg rfl) .nil)) trivial memNil .nil memNil rfl trivial memNil rfl rfl rfl rfl rfl rfl ?_
 refine rt_nil ?_
 refine tri_block ?_
 refine tri_sr ?_
 refine s_of (st_eqI rfl rfl rfl) rfl rfl rfl rfl ?_
 refine m2 ?_
 refine rt_nil ?_
 refine tri_cond rfl (fun c3 => ?_) (fun c3 => ?_)
 ·replace h := cond_t h c3
  refine tri_sr ?_
  refine s_loadR rfl rfl rfl rfl ty26 rfl rfl rfl ?_
  refine s_fieldAddr rfl rfl fd28_0 rfl rfl rfl rfl ?_
  refine s_load rfl rfl rfl rfl ty9 rfl (.inr rfl) (by conv => lhs; whnf) rfl rfl rfl ?_
  refine bnd2_elim h fun x4 x5 q6 h => ?_
  refine s_callN (kb := []) (ns := []) (v := .tup [.sc (.string x4), .sc (.bool x5)]) rfl rfl cl13 (wi_CutOf p0 p1.name x4 x5 q6) rfl (.cons (relAgg rfl) (.cons (.free rfl) .nil)) trivial memNil .nil memNil rfl trivial memNil rfl rfl rfl rfl rfl rfl ?_
  refine m1 ?_
  refine s_extract rfl rfl rfl rfl rfl rfl ?_
  refine s_extract rfl rfl rfl rfl rfl rfl ?_
  refine m2 ?_
  refine m2 ?_
  refine rt_nil ?_
  refine tri_sr ?_
  refine s_fieldAddr rfl rfl fd26_1 rfl rfl rfl rfl ?_
  refine s_load rfl rfl rfl rfl ty24 rfl (.inr rfl) (by conv => lhs; whnf) rfl rfl rfl ?_
  refine m1 ?_
  refine bnd1_elim h fun x7 q8 h => ?_
  refine s_callN (kb := []) (ns := []) (v := .ref (22, 0) 0 x7.length) rfl rfl cl21 (wi_SetOf p0.l x4 2 x7 q8) rfl (.cons (.free rfl) (.cons (.free rfl) (.cons (.free rfl) .nil))) trivial memNil .nil memNil rfl ⟨(allSc_map recV_sc), trivial⟩ memNil rfl (by simp only [V.mat, V.mat1, V.mat0, matL, matT, List.length_map] <;> rfl) rfl rfl rfl rfl ?_
  refine m2 ?_
  refine rt_nil ?_
  refine tri_ret ?_
  have e0 := (some1 h); subst e0
  exact endY (v' := .ref (2000, 0) 0 x7.length) [((2000, 0), ⟨39, 6, List.map recV x7, false, true⟩, some (22, 0))] [] (rvC (resTmp rfl) rvN) ⟨⟨rfl, _, rfl, rfl, rfl, rfl, id, rowsCv_eq rfl (allFree_map recV_free), rowsZ_map recV_len⟩, trivial⟩ trivial rfl rfl (by kernel_rfl) (by simp only [V.mat, V.mat1, V.mat0, matL, matT, List.length_map] <;> rfl) (.ref rfl)
 ·replace h := cond_f h c3
  refine tri_cutI (ι := { p : Bool // i_MoreIn_j0 p0 p = some r0 }) (fun p => inv_i_MoreIn_0 p0 p.1) ?_ ?_
  ·skip
   refine tri_sr ?_
   refine s_of (st_eqI rfl rfl rfl) rfl rfl rfl rfl ?_
   refine m2 ?_
   refine rt_nil ?_
   refine tri_cond rfl (fun c9 => ?_) (fun c9 => ?_)
   ·replace h := cond_t h c9
    refine tri_skip ?_
    refine Exists.intro ⟨decide (x1 = 4), h⟩ ?_
    refine entX [((2, 0), ⟨26, 2, [[.sc (.string p0.apex), .lst 6 (List.map recV p0.l)]], false, true⟩, some (2, 0))] [] ⟨⟨rfl, _, rfl, rfl, rfl, rfl, id, rowsCv_one (.cons (.free rfl) (.cons (.free rfl) .nil)), rowsZ_one rfl⟩, trivial⟩ trivial rfl rfl ?_
    exact ⟨(.ptr rfl), (.free rfl), trivial⟩
   ·replace h := cond_f h c9
    refine tri_region ?_
    refine s_of (st_eqI rfl rfl rfl) rfl rfl rfl rfl ?_
    refine m2 ?_
    refine rt_nil ?_
    refine Exists.intro ⟨decide (x1 = 5), h⟩ ?_
    refine entX [((2, 0), ⟨26, 2, [[.sc (.string p0.apex), .lst 6 (List.map recV p0.l)]], false, true⟩, some (2, 0))] [] ⟨⟨rfl, _, rfl, rfl, rfl, rfl, id, rowsCv_one (.cons (.free rfl) (.cons (.free rfl) .nil)), rowsZ_one rfl⟩, trivial⟩ trivial rfl rfl ?_
    exact ⟨(.ptr rfl), (.free rfl), trivial⟩
  ·rintro ⟨j0_0, h⟩
   replace h : i_MoreIn_j0 p0 j0_0 = some r0 := h
   unfold i_MoreIn_j0 at h
   show Tri _ _ _ (inv_i_MoreIn_0 p0 j0_0)
   refine tri_cond rfl (fun c9 => ?_) (fun c9 => ?_)
   ·replace h := cond_t h c9
    refine tri_sr ?_
    refine s_loadR rfl rfl rfl rfl ty26 rfl rfl rfl ?_
    refine bnd1_elim h fun x10 q11 h => ?_
    refine s_callN (kb := []) (ns := []) (v := .agg (recV x10)) rfl rfl cl19 (wi_StartOf p0 x10 q11) rfl (.cons (relAgg rfl) .nil) trivial memNil .nil memNil rfl trivial memNil rfl rfl rfl rfl rfl rfl ?_
    refine s_buildSlice (rows' := List.map recV [x10]) rfl rfl rfl sl24 zc39 rfl rfl rfl rfl rfl rfl rfl rfl rfl ?_
    refine m2 ?_
    refine rt_nil ?_
    refine tri_ret ?_
    have e0 := (some1 h); subst e0
    exact endY (v' := .ref (2000, 0) 0 ([x10].length)) [((2000, 0), ⟨39, 6, List.map recV [x10], false, true⟩, some (28, 0))] [] (rvC (resTmp rfl) rvN) ⟨⟨rfl, _, rfl, rfl, rfl, rfl, id, rowsCv_eq rfl (allFree_map recV_free), rowsZ_map recV_len⟩, trivial⟩ trivial rfl rfl (by kernel_rfl) (by simp only [V.mat, V.mat1, V.mat0, matL, matT, List.length_map] <;> rfl) (.ref rfl)
   ·replace h := cond_f h c9
    refine tri_skip ?_
    refine tri_sr ?_
    refine s_mv (.inr rfl) (v := .nils) rfl rfl rfl rfl ?_
    refine rt_nil ?_
    refine tri_ret ?_
    have e0 := (some1 h); subst e0
    exact endY (v' := .ref (2000, 0) 0 (([] : List Rec).length)) [((2000, 0), ⟨39, 6, List.map recV ([] : List Rec), false, true⟩, none)] [] (rvC (resTmp rfl) rvN) ⟨rfl, trivial⟩ trivial rfl rfl (by kernel_rfl) (by simp only [V.mat, V.mat1, V.mat0, matL, matT, List.length_map] <;> rfl) (.nilRef rfl)

/- impl.Hosts -/
def inv_i_Hosts_1 (p0 : List Rec) (v0_0 : List ByteArray) (v0_1 : Nat) (e0 : Rec) (j1_0 : Bool) : St := mkT 30 [(3, .ref (2003, 0) 0 v0_0.length), (5, .ptr (5, 0) 0 0), (7, .lst 6 (List.map recV p0)), (8, .sc (.int .i64 (p0.length : Int))), (9, .sc (.int .i64 (v0_1 : Int))), (22, .sc (.bool j1_0))] [((2003, 0), some ⟨9, 1, List.map strV v0_0, false, true⟩), ((5, 0), some ⟨39, 6, [[.sc (.string e0.name), .sc (.int .i64 e0.ty), .sc (.int .i64 e0.ttl), .sc (.int .i64 e0.n), .sc (.string e0.host), .sc (.string e0.text)]], false, true⟩)]
def inv_i_Hosts_0 (p0 : List Rec) (v0_0 : List ByteArray) (v0_1 : Nat) : St := mkT 30 [(3, .ref (2003, 0) 0 v0_0.length), (7, .lst 6 (List.map recV p0)), (8, .sc (.int .i64 (p0.length : Int))), (9, .sc (.int .i64 (v0_1 : Int)))] [((2003, 0), some ⟨9, 1, List.map strV v0_0, false, true⟩)]
set_option maxRecDepth 4000 in
set_option maxHeartbeats 800000 in
theorem wi_Hosts (p0 : List Rec) (r0 : List ByteArray) (h : i_Hosts p0 = some r0) : Runs Tryd.prog 41 [.lst 6 (List.map recV p0)] [] (.own 9 1 (List.map strV r0)) [] := by
 unfold i_Hosts at h
 refine runsR [.tmp 2] Tryd.func41 rfl rfl rfl rfl ?_
 rw [Tryd.ntmps41]
 refine tri_sr ?_
 refine s_mv (.inr rfl) (v := .nils) rfl rfl rfl rfl ?_
 refine rt_nil ?_
 refine tri_sr ?_
 refine s_buildSlice (rows' := List.map strV ([] : List ByteArray)) rfl rfl rfl sl33 zc9 rfl rfl rfl rfl rfl rfl rfl rfl rfl ?_
 refine m2 ?_
 refine rt_nil ?_
 refine tri_seq ?_
 refine tri_sr ?_
 refine m1 ?_
 refine s_lenL rfl sl24 rfl rfl rfl rfl ?_
 refine s_mv (.inl rfl) (v := .sc (.int .i64 0)) rfl rfl rfl rfl ?_
 refine rt_nil ?_
 refine tri_block ?_
 refine tri_lstM 0 rfl (fun hl0 => ?_)
 refine tri_loop (ι := { p : (List Rec) × (List ByteArray) × Nat // p0.drop p.2.2 = p.1 ∧ i_Hosts_l0 p.1 p.2.1 p.2.2 = some r0 }) (fun p => inv_i_Hosts_0 p0 p.1.2.1 p.1.2.2) (fun p => p.1.1.length) ⟨(p0, ([] : List ByteArray), 0), rfl, h⟩ ?_ ?_
 ·skip
  refine entX [((2003, 0), ⟨9, 1, List.map strV ([] : List ByteArray), false, true⟩, some (6, 0))] [] ⟨⟨rfl, _, rfl, rfl, rfl, rfl, id, rowsCv_eq rfl (allFree_map strV_free), rowsZ_map strV_len⟩, trivial⟩ trivial rfl rfl ?_
  exact ⟨(.ref rfl), (.free rfl), (.free rfl), (.free rfl), trivial⟩
 ·rintro ⟨⟨lrs0, v0_0, v0_1⟩, hd0, h⟩
  replace hd0 : p0.drop v0_1 = lrs0 := hd0
  replace h : i_Hosts_l0 lrs0 v0_0 v0_1 = some r0 := h
  show Tri _ _ _ (inv_i_Hosts_0 p0 v0_0 v0_1)
  refine tri_sr ?_
  refine s_of (st_lss rfl rfl rfl) rfl rfl rfl rfl ?_
  refine rt_nil ?_
  refine tri_seq ?_
  refine tri_cond rfl (fun c1 => ?_) (fun c1 => ?_)
  ·refine drop_elim hd0 c1 fun e0 rs0 he hx0 hn0 => ?_
   subst he
   rw [i_Hosts_l0] at h
   refine tri_skip ?_
   refine tri_seq ?_
   refine tri_block ?_
   refine tri_sr ?_
   refine s_indexF (i := v0_1) rfl rfl rfl sl24 (get_ltM hx0) rfl rfl rfl ?_
   refine s_loadFR rfl rfl (rowG hx0) ty39 rfl rfl rfl ?_
   refine s_alloc rfl rfl rfl zc39 rfl rfl rfl rfl rfl ?_
   refine s_storeB rfl rfl rfl ty39 rfl rfl rfl rfl rfl ?_
   refine rt_nil ?_
   refine tri_cutI (ι := { p : Bool // i_Hosts_j1 v0_0 v0_1 e0 (i_Hosts_l0 rs0) p = some r0 }) (fun p => inv_i_Hosts_1 p0 v0_0 v0_1 e0 p.1) ?_ ?_
   ·skip
    refine tri_region ?_
    refine s_fieldAddr rfl rfl fd39_1 rfl rfl rfl rfl ?_
    refine s_load rfl rfl rfl rfl ty3 rfl (.inr rfl) (by conv => lhs; whnf) rfl rfl rfl ?_
    refine s_of (st_eqI rfl rfl rfl) rfl rfl rfl rfl ?_
    refine m1 ?_
    refine s_split (t := 16) rfl (fun b2 => ?_) (fun b2 => ?_)
    ·replace h := cond_t h b2
     refine m1 ?_
     refine s_fieldAddr rfl rfl fd39_4 rfl rfl rfl rfl ?_
     refine s_load rfl rfl rfl rfl ty9 rfl (.inr rfl) (by conv => lhs; whnf) rfl rfl rfl ?_
     refine bnd1_elim h fun x3 q4 h => ?_
     refine s_callN (kb := [(2003, 0)]) (ns := []) (v := .sc (.bool x3)) rfl rfl cl92 (wslices_Contains_string v0_0 e0.host x3 q4) rfl (.cons (lendL rfl (.head _) rfl strV_free strV_len) (.cons (.free rfl) .nil)) trivial memNil .nil (fun _ _ => List.not_mem_nil) rfl trivial memNil rfl rfl rfl rfl rfl rfl ?_
     refine s_of (st_not rfl rfl) rfl rfl rfl rfl ?_
     refine s_pickT rfl rfl (by conv => lhs; whnf) rfl rfl rfl ?_
     refine rt_nil ?_
     refine Exists.intro ⟨!x3, h⟩ ?_
     refine entX [((2003, 0), ⟨9, 1, List.map strV v0_0, false, true⟩, some (2003, 0)), ((5, 0), ⟨39, 6, [[.sc (.string e0.name), .sc (.int .i64 e0.ty), .sc (.int .i64 e0.ttl), .sc (.int .i64 e0.n), .sc (.string e0.host), .sc (.string e0.text)]], false, true⟩, some (5, 0))] [] ⟨⟨rfl, _, rfl, rfl, rfl, rfl, id, rowsCv_eq rfl (allFree_map strV_free), rowsZ_map strV_len⟩, ⟨rfl, _, rfl, rfl, rfl, rfl, id, rowsCv_one (.cons (.free rfl) (.cons (.free rfl) (.cons (.free rfl) (.cons (.free rfl) (.cons (.free rfl) (.cons (.free rfl) .nil)))))), rowsZ_one rfl⟩, trivial⟩ trivial rfl rfl ?_
     exact ⟨(.ref rfl), (.ptr rfl), (.free rfl), (.free rfl), (.free rfl), (.free rfl), trivial⟩
    ·replace h := cond_f h b2
     refine s_skip rfl rfl rfl ?_
     refine s_skip rfl rfl rfl ?_
     refine s_skip rfl rfl rfl ?_
     refine s_skip rfl rfl rfl ?_
     refine s_skip rfl rfl rfl ?_
     refine s_pickF rfl rfl (v := .sc (.bool false)) rfl rfl rfl rfl ?_
     refine rt_nil ?_
     refine Exists.intro ⟨false, h⟩ ?_
     refine entX [((2003, 0), ⟨9, 1, List.map strV v0_0, false, true⟩, some (2003, 0)), ((5, 0), ⟨39, 6, [[.sc (.string e0.name), .sc (.int .i64 e0.ty), .sc (.int .i64 e0.ttl), .sc (.int .i64 e0.n), .sc (.string e0.host), .sc (.string e0.text)]], false, true⟩, some (5, 0))] [] ⟨⟨rfl, _, rfl, rfl, rfl, rfl, id, rowsCv_eq rfl (allFree_map strV_free), rowsZ_map strV_len⟩, ⟨rfl, _, rfl, rfl, rfl, rfl, id, rowsCv_one (.cons (.free rfl) (.cons (.free rfl) (.cons (.free rfl) (.cons (.free rfl) (.cons (.free rfl) (.cons (.free rfl) .nil)))))), rowsZ_one rfl⟩, trivial⟩ trivial rfl rfl ?_
     exact ⟨(.ref rfl), (.ptr rfl), (.free rfl), (.free rfl), (.free rfl), (.free rfl), trivial⟩
   ·rintro ⟨j1_0, h⟩
    replace h : i_Hosts_j1 v0_0 v0_1 e0 (i_Hosts_l0 rs0) j1_0 = some r0 := h
    unfold i_Hosts_j1 at h
    show Tri _ _ _ (inv_i_Hosts_1 p0 v0_0 v0_1 e0 j1_0)
    refine tri_cond rfl (fun c2 => ?_) (fun c2 => ?_)
    ·replace h := cond_t h c2
     refine tri_region ?_
     refine m1 ?_
     refine s_fieldAddr rfl rfl fd39_4 rfl rfl rfl rfl ?_
     refine s_load rfl rfl rfl rfl ty9 rfl (.inr rfl) (by conv => lhs; whnf) rfl rfl rfl ?_
     refine s_buildSlice (rows' := List.map strV [e0.host]) rfl rfl rfl sl33 zc9 rfl rfl rfl rfl rfl rfl rfl rfl rfl ?_
     refine grd_elim h fun g3 h => ?_
     refine s_appL rfl rfl rfl sl33 zc9 rfl rfl rfl rfl rfl rfl (src_refL rfl rfl) g3 rfl rfl ?_
     refine m2 ?_
     refine rt_nil ?_
     refine tri_region ?_
     refine s_inc (a := v0_1) (b := 1) rfl rfl rfl rfl (by have := get_lt hx0; have := hl0; omega) rfl rfl rfl ?_
     refine m1 ?_
     refine rt_nil ?_
     refine Exists.intro ⟨(rs0, v0_0 ++ [e0.host], (v0_1 + 1)), hn0, h⟩ (And.intro (Nat.lt_succ_self _) ?_)
     refine entX [((2003, 0), ⟨9, 1, List.map strV (v0_0 ++ [e0.host]), false, true⟩, some (27, 0))] [] ⟨⟨rfl, _, rfl, rfl, rfl, rfl, id, rowsCv_eq rfl (allFree_map strV_free), rowsZ_map strV_len⟩, trivial⟩ trivial rfl rfl ?_
     exact ⟨(.ref rfl), (.free rfl), (.free rfl), (.free rfl), trivial⟩
    ·replace h := cond_f h c2
     refine tri_skip ?_
     refine tri_region ?_
     refine s_inc (a := v0_1) (b := 1) rfl rfl rfl rfl (by have := get_lt hx0; have := hl0; omega) rfl rfl rfl ?_
     refine m1 ?_
     refine rt_nil ?_
     refine Exists.intro ⟨(rs0, v0_0, (v0_1 + 1)), hn0, h⟩ (And.intro (Nat.lt_succ_self _) ?_)
     refine entX [((2003, 0), ⟨9, 1, List.map strV v0_0, false, true⟩, some (2003, 0))] [] ⟨⟨rfl, _, rfl, rfl, rfl, rfl, id, rowsCv_eq rfl (allFree_map strV_free), rowsZ_map strV_len⟩, trivial⟩ trivial rfl rfl ?_
     exact ⟨(.ref rfl), (.free rfl), (.free rfl), (.free rfl), trivial⟩
  ·have he := drop_f hd0 c1; subst he
   rw [i_Hosts_l0] at h
   refine tri_exit ?_
   refine tri_sr ?_
   refine m1 ?_
   refine m2 ?_
   refine rt_nil ?_
   refine tri_ret ?_
   have e0 := (some1 h); subst e0
   exact endY (v' := .ref (2000, 0) 0 v0_0.length) [((2000, 0), ⟨9, 1, List.map strV v0_0, false, true⟩, some (2003, 0))] [] (rvC (resTmp rfl) rvN) ⟨⟨rfl, _, rfl, rfl, rfl, rfl, id, rowsCv_eq rfl (allFree_map strV_free), rowsZ_map strV_len⟩, trivial⟩ trivial rfl rfl (by kernel_rfl) (by simp only [V.mat, V.mat1, V.mat0, matL, matT, List.length_map] <;> rfl) (.ref rfl)

/- impl.Glue -/
def inv_i_Glue_0 (p0 : MZone) (p1 : List ByteArray) (v0_0 : List Rec) (v0_1 : Nat) : St := mkT 23 [(2, .ptr (2, 0) 0 0), (5, .ref (2005, 0) 0 v0_0.length), (9, .lst 1 (List.map strV p1)), (10, .sc (.int .i64 (p1.length : Int))), (11, .sc (.int .i64 (v0_1 : Int)))] [((2, 0), some ⟨26, 2, [[.sc (.string p0.apex), .lst 6 (List.map recV p0.l)]], false, true⟩), ((2005, 0), some ⟨39, 6, List.map recV v0_0, false, true⟩)]
set_option maxRecDepth 4000 in
set_option maxHeartbeats 800000 in
theorem wi_Glue (p0 : MZone) (p1 : List ByteArray) (r0 : List Rec) (h : i_Glue p0 p1 = some r0) : Runs Tryd.prog 72 [.agg (mZoneV p0), .lst 1 (List.map strV p1)] [] (.own 39 6 (List.map recV r0)) [] := by
 unfold i_Glue at h
 refine runsR [.tmp 4] Tryd.func72 rfl rfl rfl rfl ?_
 rw [Tryd.ntmps72]
 refine tri_sr ?_
 refine s_box rfl rfl rfl rfl rfl rfl rfl ?_
 refine s_mv (.inr rfl) (v := .nils) rfl rfl rfl rfl ?_
 refine rt_nil ?_
 refine tri_sr ?_
 refine s_buildSlice (rows' := List.map recV ([] : List Rec)) rfl rfl rfl sl24 zc39 rfl rfl rfl rfl rfl rfl rfl rfl rfl ?_
 refine m2 ?_
 refine rt_nil ?_
 refine tri_seq ?_
 refine tri_sr ?_
 refine m1 ?_
 refine s_lenL rfl sl33 rfl rfl rfl rfl ?_
 refine s_mv (.inl rfl) (v := .sc (.int .i64 0)) rfl rfl rfl rfl ?_
 refine rt_nil ?_
 refine tri_block ?_
 refine tri_lstM 1 rfl (fun hl0 => ?_)
 refine tri_loop (ι := { p : (List ByteArray) × (List Rec) × Nat // p1.drop p.2.2 = p.1 ∧ i_Glue_l0 p0 p.1 p.2.1 p.2.2 = some r0 }) (fun p => inv_i_Glue_0 p0 p1 p.1.2.1 p.1.2.2) (fun p => p.1.1.length) ⟨(p1, ([] : List Rec), 0), rfl, h⟩ ?_ ?_
 ·skip
  refine entX [((2, 0), ⟨26, 2, [[.sc (.string p0.apex), .lst 6 (List.map recV p0.l)]], false, true⟩, some (2, 0)), ((2005, 0), ⟨39, 6, List.map recV ([] : List Rec), false, true⟩, some (8, 0))] [] ⟨⟨rfl, _, rfl, rfl, rfl, rfl, id, rowsCv_one (.cons (.free rfl) (.cons (.free rfl) .nil)), rowsZ_one rfl⟩, ⟨rfl, _, rfl, rfl, rfl, rfl, id, rowsCv_eq rfl (allFree_map recV_free), rowsZ_map recV_len⟩, trivial⟩ trivial rfl rfl ?_
  exact ⟨(.ptr rfl), (.ref rfl), (.free rfl), (.free rfl), (.free rfl), trivial⟩
 ·rintro ⟨⟨lrs0, v0_0, v0_1⟩, hd0, h⟩
  replace hd0 : p1.drop v0_1 = lrs0 := hd0
  replace h : i_Glue_l0 p0 lrs0 v0_0 v0_1 = some r0 := h
  show Tri _ _ _ (inv_i_Glue_0 p0 p1 v0_0 v0_1)
  refine tri_sr ?_
  refine s_of (st_lss rfl rfl rfl) rfl rfl rfl rfl ?_
  refine rt_nil ?_
  refine tri_seq ?_
  refine tri_cond rfl (fun c1 => ?_) (fun c1 => ?_)
  ·refine drop_elim hd0 c1 fun e0 rs0 he hx0 hn0 => ?_
   subst he
   rw [i_Glue_l0] at h
   refine tri_skip ?_
   refine tri_seq ?_
   refine tri_block ?_
   refine tri_sr ?_
   refine s_indexF (i := v0_1) rfl rfl rfl sl33 (get_ltM hx0) rfl rfl rfl ?_
   refine s_loadF rfl rfl (rowG hx0) ty9 rfl (.inr rfl) (by conv => lhs; whnf) rfl rfl rfl ?_
   refine m2 ?_
   refine rt_nil ?_
   refine tri_region ?_
   refine m1 ?_
   refine s_fieldAddr rfl rfl fd26_1 rfl rfl rfl rfl ?_
   refine s_load rfl rfl rfl rfl ty24 rfl (.inr rfl) (by conv => lhs; whnf) rfl rfl rfl ?_
   refine m1 ?_
   refine bnd1_elim h fun x2 q3 h => ?_
   refine s_callN (kb := []) (ns := []) (v := .ref (19, 0) 0 x2.length) rfl rfl cl21 (wi_SetOf p0.l e0 1 x2 q3) rfl (.cons (.free rfl) (.cons (.free rfl) (.cons (.free rfl) .nil))) trivial memNil .nil memNil rfl ⟨(allSc_map recV_sc), trivial⟩ memNil rfl (by simp only [V.mat, V.mat1, V.mat0, matL, matT, List.length_map] <;> rfl) rfl rfl rfl rfl ?_
   refine grd_elim h fun g4 h => ?_
   refine s_appL rfl rfl rfl sl24 zc39 rfl rfl rfl rfl rfl rfl (src_refL rfl rfl) g4 rfl rfl ?_
   refine m2 ?_
   refine rt_nil ?_
   refine tri_region ?_
   refine s_inc (a := v0_1) (b := 1) rfl rfl rfl rfl (by have := get_lt hx0; have := hl0; omega) rfl rfl rfl ?_
   refine m1 ?_
   refine rt_nil ?_
   refine Exists.intro ⟨(rs0, v0_0 ++ x2, (v0_1 + 1)), hn0, h⟩ (And.intro (Nat.lt_succ_self _) ?_)
   refine entX [((2, 0), ⟨26, 2, [[.sc (.string p0.apex), .lst 6 (List.map recV p0.l)]], false, true⟩, some (2, 0)), ((2005, 0), ⟨39, 6, List.map recV (v0_0 ++ x2), false, true⟩, some (20, 0))] [] ⟨⟨rfl, _, rfl, rfl, rfl, rfl, id, rowsCv_one (.cons (.free rfl) (.cons (.free rfl) .nil)), rowsZ_one rfl⟩, ⟨rfl, _, rfl, rfl, rfl, rfl, id, rowsCv_eq rfl (allFree_map recV_free), rowsZ_map recV_len⟩, trivial⟩ trivial rfl rfl ?_
   exact ⟨(.ptr rfl), (.ref rfl), (.free rfl), (.free rfl), (.free rfl), trivial⟩
  ·have he := drop_f hd0 c1; subst he
   rw [i_Glue_l0] at h
   refine tri_exit ?_
   refine tri_sr ?_
   refine m1 ?_
   refine m2 ?_
   refine rt_nil ?_
   refine tri_ret ?_
   have e0 := (some1 h); subst e0
   exact endY (v' := .ref (2000, 0) 0 v0_0.length) [((2000, 0), ⟨39, 6, List.map recV v0_0, false, true⟩, some (2005, 0))] [] (rvC (resTmp rfl) rvN) ⟨⟨rfl, _, rfl, rfl, rfl, rfl, id, rowsCv_eq rfl (allFree_map recV_free), rowsZ_map recV_len⟩, trivial⟩ trivial rfl rfl (by kernel_rfl) (by simp only [V.mat, V.mat1, V.mat0, matL, matT, List.length_map] <;> rfl) (.ref rfl)

/- impl.HelpIn -/

set_option maxRecDepth 4000 in
set_option maxHeartbeats 800000 in
theorem wi_HelpIn (p0 : MZone) (p1 : Quest) (r0 : List Rec) (h : i_HelpIn p0 p1 = some r0) : Runs Tryd.prog 61 [.agg (mZoneV p0), .agg (questV p1)] [] (.own 39 6 (List.map recV r0)) [] := by
 unfold i_HelpIn at h
 refine runsR [.tmp 4] Tryd.func61 rfl rfl rfl rfl ?_
 rw [Tryd.ntmps61]
 refine tri_sr ?_
 refine s_box rfl rfl rfl rfl rfl rfl rfl ?_
 refine s_box rfl rfl rfl rfl rfl rfl rfl ?_
 refine s_mv (.inr rfl) (v := .nils) rfl rfl rfl rfl ?_
 refine rt_nil ?_
 refine tri_seq ?_
 refine tri_sr ?_
 refine s_loadR rfl rfl rfl rfl ty26 rfl rfl rfl ?_
 refine s_loadR rfl rfl rfl rfl ty28 rfl rfl rfl ?_
 refine bnd1_elim h fun x1 q2 h => ?_
 refine s_callN (kb := []) (ns := []) (v := .sc (.int .i64 x1)) rfl rfl cl27 (wi_KindIn p0 p1 x1 q2) rfl (.cons (relAgg rfl) (.cons (relAgg rfl) .nil)) trivial memNil .nil memNil rfl trivial memNil rfl rfl rfl rfl rfl rfl ?_
 refine s_of (st_neI rfl rfl rfl) rfl rfl rfl rfl ?_
 refine rt_nil ?_
 refine tri_cond rfl (fun c3 => ?_) (fun c3 => ?_)
 ·replace h := cond_t h c3
  refine tri_sr ?_
  refine s_mv (.inr rfl) (v := .nils) rfl rfl rfl rfl ?_
  refine rt_nil ?_
  refine tri_ret ?_
  have e0 := (some1 h); subst e0
  exact endY (v' := .ref (2000, 0) 0 (([] : List Rec).length)) [((2000, 0), ⟨39, 6, List.map recV ([] : List Rec), false, true⟩, none)] [] (rvC (resTmp rfl) rvN) ⟨rfl, trivial⟩ trivial rfl rfl (by kernel_rfl) (by simp only [V.mat, V.mat1, V.mat0, matL, matT, List.length_map] <;> rfl) (.nilRef rfl)
 ·replace h := cond_f h c3
  refine tri_skip ?_
  refine tri_seq ?_
  refine tri_draw mixed ?_
  refine s_loadR rfl rfl rfl rfl ty26 rfl rfl rfl ?_
  refine s_loadR rfl rfl rfl rfl ty26 rfl rfl rfl ?_
  refine s_loadR rfl rfl rfl rfl ty28 rfl rfl rfl ?_
  refine bnd1_elim h fun x4 q5 h => ?_
  refine s_callN (kb := []) (ns := []) (v := .ref (12, 0) 0 x4.length) rfl rfl cl59 (wi_MoreIn p0 p1 x4 q5) rfl (.cons (relAgg rfl) (.cons (relAgg rfl) .nil)) trivial memNil .nil memNil rfl ⟨(allSc_map recV_sc), trivial⟩ memNil rfl (by simp only [V.mat, V.mat1, V.mat0, matL, matT, List.length_map] <;> rfl) rfl rfl rfl rfl ?_
  refine bnd1_elim h fun x6 q7 h => ?_
  refine s_callN (kb := [(12, 0)]) (ns := []) (v := .ref (13, 0) 0 x6.length) rfl rfl cl41 (wi_Hosts x4 x6 q7) rfl (.cons (lendL rfl (.head _) rfl recV_free recV_len) .nil) trivial memNil .nil (fun _ _ => List.not_mem_nil) rfl ⟨(allSc_map strV_sc), trivial⟩ memNil rfl (by simp only [V.mat, V.mat1, V.mat0, matL, matT, List.length_map] <;> rfl) rfl rfl rfl rfl ?_
  refine bnd1_elim h fun x8 q9 h => ?_
  refine s_callN (kb := [(13, 0)]) (ns := []) (v := .ref (14, 0) 0 x8.length) rfl rfl cl72 (wi_Glue p0 x6 x8 q9) rfl (.cons (relAgg rfl) (.cons (lendL rfl (.head _) rfl strV_free strV_len) .nil)) trivial memNil .nil (fun _ _ => List.not_mem_nil) rfl ⟨(allSc_map recV_sc), trivial⟩ memNil rfl (by simp only [V.mat, V.mat1, V.mat0, matL, matT, List.length_map] <;> rfl) rfl rfl rfl rfl ?_
  refine m2 ?_
  refine rt_nil ⟨by kernel_rfl, ?_⟩
  refine tri_ret ?_
  have e0 := (some1 h); subst e0
  exact endY (v' := .ref (2000, 0) 0 x8.length) [((2000, 0), ⟨39, 6, List.map recV x8, false, true⟩, some (14, 0))] [] (rvC (resTmp rfl) rvN) ⟨⟨rfl, _, rfl, rfl, rfl, rfl, id, rowsCv_eq rfl (allFree_map recV_free), rowsZ_map recV_len⟩, trivial⟩ trivial rfl rfl (by kernel_rfl) (by simp only [V.mat, V.mat1, V.mat0, matL, matT, List.length_map] <;> rfl) (.ref rfl)

/- impl.Record] -/

set_option maxRecDepth 4000 in
set_option maxHeartbeats 800000 in
theorem wslices_Clone_Record (p0 : List Rec) (r0 : List Rec) (h : slices_Clone_Record p0 = some r0) : Runs Tryd.prog 124 [.lst 6 (List.map recV p0)] [] (.own 39 6 (List.map recV r0)) [] := by
 unfold slices_Clone_Record at h
 refine runsR [.tmp 2] Tryd.func124 rfl rfl rfl rfl ?_
 rw [Tryd.ntmps124]
 refine tri_sr ?_
 refine s_mv (.inr rfl) (v := .nils) rfl rfl rfl rfl ?_
 refine rt_nil ?_
 refine tri_seq ?_
 refine tri_seq ?_
 refine tri_isNil rfl (by conv => lhs; whnf) rfl rfl rfl rfl rfl slenL sl24 rfl rfl rfl (fun b1v b1 => ?_)
 refine tri_cond rfl (fun c2 => ?_) (fun c2 => ?_)
 ·obtain rfl : p0 = [] := List.eq_nil_of_length_eq_zero (b1 c2)
  refine tri_sr ?_
  refine s_mv (.inr rfl) (v := .nils) rfl rfl rfl rfl ?_
  refine rt_nil ?_
  refine tri_ret ?_
  replace h : some ([] : List Rec) = some r0 := by simpa [grd] using h
  have e0 := (some1 h); subst e0
  exact endY (v' := .ref (2000, 0) 0 (([] : List Rec).length)) [((2000, 0), ⟨39, 6, List.map recV ([] : List Rec), false, true⟩, none)] [] (rvC (resTmp rfl) rvN) ⟨rfl, trivial⟩ trivial rfl rfl (by kernel_rfl) (by simp only [V.mat, V.mat1, V.mat0, matL, matT, List.length_map] <;> rfl) (.nilRef rfl)
 ·skip
  refine tri_skip ?_
  refine tri_sr ?_
  refine s_buildSlice (rows' := List.map recV ([] : List Rec)) rfl rfl rfl sl24 zc39 rfl rfl rfl rfl rfl rfl rfl rfl rfl ?_
  refine m1 ?_
  refine grd_elim h fun g3 h => ?_
  refine s_appL rfl rfl rfl sl24 zc39 rfl rfl rfl rfl rfl rfl src_lst g3 rfl rfl ?_
  refine m2 ?_
  refine rt_nil ?_
  refine tri_ret ?_
  have e0 := (some1 h); subst e0
  exact endY (v' := .ref (2000, 0) 0 ((([] : List Rec) ++ p0).length)) [((2000, 0), ⟨39, 6, List.map recV (([] : List Rec) ++ p0), false, true⟩, some (7, 0))] [] (rvC (resTmp rfl) rvN) ⟨⟨rfl, _, rfl, rfl, rfl, rfl, id, rowsCv_eq rfl (allFree_map recV_free), rowsZ_map recV_len⟩, trivial⟩ trivial rfl rfl (by kernel_rfl) (by simp only [V.mat, V.mat1, V.mat0, matL, matT, List.length_map] <;> rfl) (.ref rfl)

/- impl.copyMsg -/

set_option maxRecDepth 4000 in
set_option maxHeartbeats 800000 in
theorem wi_copyMsg (p0 : MMsg) (r0 : MMsg) (h : i_copyMsg p0 = some r0) : Runs Tryd.prog 155 [.agg (mMsgV p0)] [] (.agg [.sc (.int .i64 r0.id), .sc (.bool r0.reply), .sc (.bool r0.auth), .sc (.bool r0.cut), .sc (.bool r0.want), .sc (.bool r0.can), .sc (.int .i64 r0.code), .sc (.string r0.q.name), .sc (.int .i64 r0.q.ty), .own 39 6 (List.map recV r0.an), .own 39 6 (List.map recV r0.au), .own 39 6 (List.map recV r0.ad)]) [] := by
 unfold i_copyMsg at h
 refine runsR [.cell 2 50] Tryd.func155 rfl rfl rfl rfl ?_
 rw [Tryd.ntmps155]
 refine tri_sr ?_
 refine s_box rfl rfl rfl rfl rfl rfl rfl ?_
 refine s_alloc rfl rfl rfl zc50 rfl rfl rfl rfl rfl ?_
 refine rt_nil ?_
 refine tri_sr ?_
 refine s_fieldAddr rfl rfl fd50_8 rfl rfl rfl rfl ?_
 refine s_load rfl rfl rfl rfl ty24 rfl (.inr rfl) (by conv => lhs; whnf) rfl rfl rfl ?_
 refine bnd1_elim h fun x1 q2 h => ?_
 refine s_callN (kb := []) (ns := []) (v := .ref (5, 0) 0 x1.length) rfl rfl cl124 (wslices_Clone_Record p0.an x1 q2) rfl (.cons (.free rfl) .nil) trivial memNil .nil memNil rfl ⟨(allSc_map recV_sc), trivial⟩ memNil rfl (by simp only [V.mat, V.mat1, V.mat0, matL, matT, List.length_map] <;> rfl) rfl rfl rfl rfl ?_
 refine s_fieldAddr rfl rfl fd50_8 rfl rfl rfl rfl ?_
 refine s_store (rows' := [[.sc (.int .i64 p0.id), .sc (.bool p0.reply), .sc (.bool p0.auth), .sc (.bool p0.cut), .sc (.bool p0.want), .sc (.bool p0.can), .sc (.int .i64 p0.code), .sc (.string p0.q.name), .sc (.int .i64 p0.q.ty), .ref (5, 0) 0 x1.length, .lst 6 (List.map recV p0.au), .lst 6 (List.map recV p0.ad)]]) rfl rfl rfl rfl ty24 rfl rfl rfl rfl rfl rfl ?_
 refine rt_nil ?_
 refine tri_sr ?_
 refine s_fieldAddr rfl rfl fd50_9 rfl rfl rfl rfl ?_
 refine s_load rfl rfl rfl rfl ty24 rfl (.inr rfl) (by conv => lhs; whnf) rfl rfl rfl ?_
 refine bnd1_elim h fun x3 q4 h => ?_
 refine s_callN (kb := []) (ns := []) (v := .ref (9, 0) 0 x3.length) rfl rfl cl124 (wslices_Clone_Record p0.au x3 q4) rfl (.cons (.free rfl) .nil) trivial memNil .nil memNil rfl ⟨(allSc_map recV_sc), trivial⟩ memNil rfl (by simp only [V.mat, V.mat1, V.mat0, matL, matT, List.length_map] <;> rfl) rfl rfl rfl rfl ?_
 refine s_fieldAddr rfl rfl fd50_9 rfl rfl rfl rfl ?_
 refine s_store (rows' := [[.sc (.int .i64 p0.id), .sc (.bool p0.reply), .sc (.bool p0.auth), .sc (.bool p0.cut), .sc (.bool p0.want), .sc (.bool p0.can), .sc (.int .i64 p0.code), .sc (.string p0.q.name), .sc (.int .i64 p0.q.ty), .ref (5, 0) 0 x1.length, .ref (9, 0) 0 x3.length, .lst 6 (List.map recV p0.ad)]]) rfl rfl rfl rfl ty24 rfl rfl rfl rfl rfl rfl ?_
 refine rt_nil ?_
 refine tri_sr ?_
 refine s_fieldAddr rfl rfl fd50_10 rfl rfl rfl rfl ?_
 refine s_load rfl rfl rfl rfl ty24 rfl (.inr rfl) (by conv => lhs; whnf) rfl rfl rfl ?_
 refine bnd1_elim h fun x5 q6 h => ?_
 refine s_callN (kb := []) (ns := []) (v := .ref (13, 0) 0 x5.length) rfl rfl cl124 (wslices_Clone_Record p0.ad x5 q6) rfl (.cons (.free rfl) .nil) trivial memNil .nil memNil rfl ⟨(allSc_map recV_sc), trivial⟩ memNil rfl (by simp only [V.mat, V.mat1, V.mat0, matL, matT, List.length_map] <;> rfl) rfl rfl rfl rfl ?_
 refine s_fieldAddr rfl rfl fd50_10 rfl rfl rfl rfl ?_
 refine s_store (rows' := [[.sc (.int .i64 p0.id), .sc (.bool p0.reply), .sc (.bool p0.auth), .sc (.bool p0.cut), .sc (.bool p0.want), .sc (.bool p0.can), .sc (.int .i64 p0.code), .sc (.string p0.q.name), .sc (.int .i64 p0.q.ty), .ref (5, 0) 0 x1.length, .ref (9, 0) 0 x3.length, .ref (13, 0) 0 x5.length]]) rfl rfl rfl rfl ty24 rfl rfl rfl rfl rfl rfl ?_
 refine rt_nil ?_
 refine tri_sr ?_
 refine s_loadR rfl rfl rfl rfl ty50 rfl rfl rfl ?_
 refine s_storeB rfl rfl rfl ty50 rfl rfl rfl rfl rfl ?_
 refine rt_nil ?_
 refine tri_ret ?_
 have e0 := (some1 h); subst e0
 exact endY (v' := .agg [.sc (.int .i64 p0.id), .sc (.bool p0.reply), .sc (.bool p0.auth), .sc (.bool p0.cut), .sc (.bool p0.want), .sc (.bool p0.can), .sc (.int .i64 p0.code), .sc (.string p0.q.name), .sc (.int .i64 p0.q.ty), .ref (2000, 9) 0 x1.length, .ref (2000, 10) 0 x3.length, .ref (2000, 11) 0 x5.length]) [((2000, 9), ⟨39, 6, List.map recV x1, false, true⟩, some (5, 0)), ((2000, 10), ⟨39, 6, List.map recV x3, false, true⟩, some (9, 0)), ((2000, 11), ⟨39, 6, List.map recV x5, false, true⟩, some (13, 0))] [] (rvC (resCell rfl rfl ty50) rvN) ⟨⟨rfl, _, rfl, rfl, rfl, rfl, id, rowsCv_eq rfl (allFree_map recV_free), rowsZ_map recV_len⟩, ⟨rfl, _, rfl, rfl, rfl, rfl, id, rowsCv_eq rfl (allFree_map recV_free), rowsZ_map recV_len⟩, ⟨rfl, _, rfl, rfl, rfl, rfl, id, rowsCv_eq rfl (allFree_map recV_free), rowsZ_map recV_len⟩, trivial⟩ trivial rfl rfl (by kernel_rfl) (by simp only [V.mat, V.mat1, V.mat0, matL, matT, List.length_map] <;> rfl) (CvL.agg (.cons (.free rfl) (.cons (.free rfl) (.cons (.free rfl) (.cons (.free rfl) (.cons (.free rfl) (.cons (.free rfl) (.cons (.free rfl) (.cons (.free rfl) (.cons (.free rfl) (.cons (.ref rfl) (.cons (.ref rfl) (.cons (.ref rfl) .nil)))))))))))))

/- impl.ReplyTo -/

set_option maxRecDepth 4000 in
set_option maxHeartbeats 800000 in
theorem wi_ReplyTo (p0 : MMsg) (p1 : Int) (p2 : Bool) (p3 : List Rec) (p4 : List Rec) (p5 : List Rec) (r0 : MMsg) (h : i_ReplyTo p0 p1 p2 p3 p4 p5 = some r0) : Runs Tryd.prog 104 [.agg (mMsgV p0), .sc (.int .i64 p1), .sc (.bool p2), .lst 6 (List.map recV p3), .lst 6 (List.map recV p4), .lst 6 (List.map recV p5)] [] (.agg [.sc (.int .i64 r0.id), .sc (.bool r0.reply), .sc (.bool r0.auth), .sc (.bool r0.cut), .sc (.bool r0.want), .sc (.bool r0.can), .sc (.int .i64 r0.code), .sc (.string r0.q.name), .sc (.int .i64 r0.q.ty), .own 39 6 (List.map recV r0.an), .own 39 6 (List.map recV r0.au), .own 39 6 (List.map recV r0.ad)]) [] := by
 unfold i_ReplyTo at h
 refine runsR [.cell 12 50] Tryd.func104 rfl rfl rfl rfl ?_
 rw [Tryd.ntmps104]
 refine tri_sr ?_
 refine s_box rfl rfl rfl rfl rfl rfl rfl ?_
 refine s_alloc rfl rfl rfl zc50 rfl rfl rfl rfl rfl ?_
 refine rt_nil ?_
 refine tri_sr ?_
 refine s_fieldAddr rfl rfl fd50_0 rfl rfl rfl rfl ?_
 refine s_load rfl rfl rfl rfl ty3 rfl (.inr rfl) (by conv => lhs; whnf) rfl rfl rfl ?_
 refine m1 ?_
 refine s_fieldAddr rfl rfl fd50_4 rfl rfl rfl rfl ?_
 refine s_load rfl rfl rfl rfl ty4 rfl (.inr rfl) (by conv => lhs; whnf) rfl rfl rfl ?_
 refine m1 ?_
 refine s_fieldAddr rfl rfl fd50_7 rfl rfl rfl rfl ?_
 refine s_load (v := .agg (questV p0.q)) rfl rfl rfl rfl ty28 rfl (.inl rfl) rfl rfl rfl rfl ?_
 refine m1 ?_
 refine m1 ?_
 refine m1 ?_
 refine s_build (cells' := [.sc (.int .i64 p0.id), .sc (.bool true), .sc (.bool p2), .sc (.bool false), .sc (.bool p0.want), .sc (.bool false), .sc (.int .i64 p1), .sc (.string p0.q.name), .sc (.int .i64 p0.q.ty), .lst 6 (List.map recV p3), .lst 6 (List.map recV p4), .lst 6 (List.map recV p5)]) rfl stc50 rfl rfl rfl (by kernel_rfl) rfl rfl rfl ?_
 refine bnd1_elim h fun x1 q2 h => ?_
 refine s_callN (kb := []) (ns := []) (v := .agg [.sc (.int .i64 x1.id), .sc (.bool x1.reply), .sc (.bool x1.auth), .sc (.bool x1.cut), .sc (.bool x1.want), .sc (.bool x1.can), .sc (.int .i64 x1.code), .sc (.string x1.q.name), .sc (.int .i64 x1.q.ty), .ref (25, 9) 0 x1.an.length, .ref (25, 10) 0 x1.au.length, .ref (25, 11) 0 x1.ad.length]) rfl rfl cl155 (wi_copyMsg (MMsg.mk p0.id true p2 false p0.want false p1 p0.q p3 p4 p5) x1 q2) rfl (.cons (relAgg rfl) .nil) trivial memNil .nil memNil rfl ⟨(allSc_map recV_sc), ⟨(allSc_map recV_sc), ⟨(allSc_map recV_sc), trivial⟩⟩⟩ memNil rfl (by simp only [V.mat, V.mat1, V.mat0, matL, matT, List.length_map] <;> rfl) rfl rfl rfl rfl ?_
 refine s_storeB rfl rfl rfl ty50 rfl rfl rfl rfl rfl ?_
 refine rt_nil ?_
 refine tri_ret ?_
 have e0 := (some1 h); subst e0
 exact endY (v' := .agg [.sc (.int .i64 x1.id), .sc (.bool x1.reply), .sc (.bool x1.auth), .sc (.bool x1.cut), .sc (.bool x1.want), .sc (.bool x1.can), .sc (.int .i64 x1.code), .sc (.string x1.q.name), .sc (.int .i64 x1.q.ty), .ref (2000, 9) 0 x1.an.length, .ref (2000, 10) 0 x1.au.length, .ref (2000, 11) 0 x1.ad.length]) [((2000, 9), ⟨39, 6, List.map recV x1.an, false, true⟩, some (25, 9)), ((2000, 10), ⟨39, 6, List.map recV x1.au, false, true⟩, some (25, 10)), ((2000, 11), ⟨39, 6, List.map recV x1.ad, false, true⟩, some (25, 11))] [] (rvC (resCell rfl rfl ty50) rvN) ⟨⟨rfl, _, rfl, rfl, rfl, rfl, id, rowsCv_eq rfl (allFree_map recV_free), rowsZ_map recV_len⟩, ⟨rfl, _, rfl, rfl, rfl, rfl, id, rowsCv_eq rfl (allFree_map recV_free), rowsZ_map recV_len⟩, ⟨rfl, _, rfl, rfl, rfl, rfl, id, rowsCv_eq rfl (allFree_map recV_free), rowsZ_map recV_len⟩, trivial⟩ trivial rfl rfl (by kernel_rfl) (by simp only [V.mat, V.mat1, V.mat0, matL, matT, List.length_map] <;> rfl) (CvL.agg (.cons (.free rfl) (.cons (.free rfl) (.cons (.free rfl) (.cons (.free rfl) (.cons (.free rfl) (.cons (.free rfl) (.cons (.free rfl) (.cons (.free rfl) (.cons (.free rfl) (.cons (.ref rfl) (.cons (.ref rfl) (.cons (.ref rfl) .nil)))))))))))))

/- impl.Serve -/
def inv_i_Serve_0 (p0 : MZone) (p1 : MMsg) (x1 : Int) (j0_0 : Int) : St := mkT 40 [(2, .ptr (2, 0) 0 0), (3, .ptr (3, 0) 0 0), (4, .ptr (4, 0) 0 0), (5, .sc (.int .i64 x1)), (6, .sc (.int .i64 j0_0))] [((2, 0), some ⟨26, 2, [[.sc (.string p0.apex), .lst 6 (List.map recV p0.l)]], false, true⟩), ((3, 0), some ⟨50, 12, [[.sc (.int .i64 p1.id), .sc (.bool p1.reply), .sc (.bool p1.auth), .sc (.bool p1.cut), .sc (.bool p1.want), .sc (.bool p1.can), .sc (.int .i64 p1.code), .sc (.string p1.q.name), .sc (.int .i64 p1.q.ty), .lst 6 (List.map recV p1.an), .lst 6 (List.map recV p1.au), .lst 6 (List.map recV p1.ad)]], false, true⟩), ((4, 0), some ⟨50, 12, [[.sc (.int .i64 0), .sc (.bool false), .sc (.bool false), .sc (.bool false), .sc (.bool false), .sc (.bool false), .sc (.int .i64 0), .sc (.string (⟨#[]⟩ : ByteArray)), .sc (.int .i64 0), .nils, .nils, .nils]], false, true⟩)]
set_option maxRecDepth 4000 in
set_option maxHeartbeats 800000 in
theorem wi_Serve (p0 : MZone) (p1 : MMsg) (r0 : MMsg) (h : i_Serve p0 p1 = some r0) : Runs Tryd.prog 24 [.agg (mZoneV p0), .agg (mMsgV p1)] [] (.agg [.sc (.int .i64 r0.id), .sc (.bool r0.reply), .sc (.bool r0.auth), .sc (.bool r0.cut), .sc (.bool r0.want), .sc (.bool r0.can), .sc (.int .i64 r0.code), .sc (.string r0.q.name), .sc (.int .i64 r0.q.ty), .own 39 6 (List.map recV r0.an), .own 39 6 (List.map recV r0.au), .own 39 6 (List.map recV r0.ad)]) [] := by
 unfold i_Serve at h
 refine runsR [.cell 4 50] Tryd.func24 rfl rfl rfl rfl ?_
 rw [Tryd.ntmps24]
 refine tri_sr ?_
 refine s_box rfl rfl rfl rfl rfl rfl rfl ?_
 refine s_box rfl rfl rfl rfl rfl rfl rfl ?_
 refine s_alloc rfl rfl rfl zc50 rfl rfl rfl rfl rfl ?_
 refine rt_nil ?_
 refine tri_sr ?_
 refine s_loadR rfl rfl rfl rfl ty26 rfl rfl rfl ?_
 refine s_fieldAddr rfl rfl fd50_7 rfl rfl rfl rfl ?_
 refine s_load (v := .agg (questV p1.q)) rfl rfl rfl rfl ty28 rfl (.inl rfl) rfl rfl rfl rfl ?_
 refine bnd1_elim h fun x1 q2 h => ?_
 refine s_callN (kb := []) (ns := []) (v := .sc (.int .i64 x1)) rfl rfl cl27 (wi_KindIn p0 p1.q x1 q2) rfl (.cons (relAgg rfl) (.cons (relAgg rfl) .nil)) trivial memNil .nil memNil rfl trivial memNil rfl rfl rfl rfl rfl rfl ?_
 refine m2 ?_
 refine rt_nil ?_
 refine tri_sr ?_
 refine s_mv (.inr rfl) (v := .sc (.int .i64 0)) rfl rfl rfl rfl ?_
 refine rt_nil ?_
 refine tri_cutI (ι := { p : Int // i_Serve_j0 p0 p1 x1 p = some r0 }) (fun p => inv_i_Serve_0 p0 p1 x1 p.1) ?_ ?_
 ·skip
  refine tri_sr ?_
  refine m1 ?_
  refine rt_nil ?_
  refine tri_block ?_
  refine tri_sr ?_
  refine s_of (st_eqI rfl rfl rfl) rfl rfl rfl rfl ?_
  refine m2 ?_
  refine rt_nil ?_
  refine tri_cond rfl (fun c3 => ?_) (fun c3 => ?_)
  ·replace h := cond_t h c3
   refine tri_region ?_
   refine s_mv (.inr rfl) (v := .sc (.int .i64 5)) rfl rfl rfl rfl ?_
   refine rt_nil ?_
   refine Exists.intro ⟨5, h⟩ ?_
   refine entX [((2, 0), ⟨26, 2, [[.sc (.string p0.apex), .lst 6 (List.map recV p0.l)]], false, true⟩, some (2, 0)), ((3, 0), ⟨50, 12, [[.sc (.int .i64 p1.id), .sc (.bool p1.reply), .sc (.bool p1.auth), .sc (.bool p1.cut), .sc (.bool p1.want), .sc (.bool p1.can), .sc (.int .i64 p1.code), .sc (.string p1.q.name), .sc (.int .i64 p1.q.ty), .lst 6 (List.map recV p1.an), .lst 6 (List.map recV p1.au), .lst 6 (List.map recV p1.ad)]], false, true⟩, some (3, 0)), ((4, 0), ⟨50, 12, [[.sc (.int .i64 0), .sc (.bool false), .sc (.bool false), .sc (.bool false), .sc (.bool false), .sc (.bool false), .sc (.int .i64 0), .sc (.string (⟨#[]⟩ : ByteArray)), .sc (.int .i64 0), .nils, .nils, .nils]], false, true⟩, some (4, 0))] [] ⟨⟨rfl, _, rfl, rfl, rfl, rfl, id, rowsCv_one (.cons (.free rfl) (.cons (.free rfl) .nil)), rowsZ_one rfl⟩, ⟨rfl, _, rfl, rfl, rfl, rfl, id, rowsCv_one (.cons (.free rfl) (.cons (.free rfl) (.cons (.free rfl) (.cons (.free rfl) (.cons (.free rfl) (.cons (.free rfl) (.cons (.free rfl) (.cons (.free rfl) (.cons (.free rfl) (.cons (.free rfl) (.cons (.free rfl) (.cons (.free rfl) .nil)))))))))))), rowsZ_one rfl⟩, ⟨rfl, _, rfl, rfl, rfl, rfl, id, rowsCv_one (.cons (.free rfl) (.cons (.free rfl) (.cons (.free rfl) (.cons (.free rfl) (.cons (.free rfl) (.cons (.free rfl) (.cons (.free rfl) (.cons (.free rfl) (.cons (.free rfl) (.cons (.free rfl) (.cons (.free rfl) (.cons (.free rfl) .nil)))))))))))), rowsZ_one rfl⟩, trivial⟩ trivial rfl rfl ?_
   exact ⟨(.ptr rfl), (.ptr rfl), (.ptr rfl), (.free rfl), (.free rfl), trivial⟩
  ·replace h := cond_f h c3
   refine tri_sr ?_
   refine s_of (st_eqI rfl rfl rfl) rfl rfl rfl rfl ?_
   refine m2 ?_
   refine rt_nil ?_
   refine tri_cond rfl (fun c4 => ?_) (fun c4 => ?_)
   ·replace h := cond_t h c4
    refine tri_region ?_
    refine s_mv (.inr rfl) (v := .sc (.int .i64 3)) rfl rfl rfl rfl ?_
    refine rt_nil ?_
    refine Exists.intro ⟨3, h⟩ ?_
    refine entX [((2, 0), ⟨26, 2, [[.sc (.string p0.apex), .lst 6 (List.map recV p0.l)]], false, true⟩, some (2, 0)), ((3, 0), ⟨50, 12, [[.sc (.int .i64 p1.id), .sc (.bool p1.reply), .sc (.bool p1.auth), .sc (.bool p1.cut), .sc (.bool p1.want), .sc (.bool p1.can), .sc (.int .i64 p1.code), .sc (.string p1.q.name), .sc (.int .i64 p1.q.ty), .lst 6 (List.map recV p1.an), .lst 6 (List.map recV p1.au), .lst 6 (List.map recV p1.ad)]], false, true⟩, some (3, 0)), ((4, 0), ⟨50, 12, [[.sc (.int .i64 0), .sc (.bool false), .sc (.bool false), .sc (.bool false), .sc (.bool false), .sc (.bool false), .sc (.int .i64 0), .sc (.string (⟨#[]⟩ : ByteArray)), .sc (.int .i64 0), .nils, .nils, .nils]], false, true⟩, some (4, 0))] [] ⟨⟨rfl, _, rfl, rfl, rfl, rfl, id, rowsCv_one (.cons (.free rfl) (.cons (.free rfl) .nil)), rowsZ_one rfl⟩, ⟨rfl, _, rfl, rfl, rfl, rfl, id, rowsCv_one (.cons (.free rfl) (.cons (.free rfl) (.cons (.free rfl) (.cons (.free rfl) (.cons (.free rfl) (.cons (.free rfl) (.cons (.free rfl) (.cons (.free rfl) (.cons (.free rfl) (.cons (.free rfl) (.cons (.free rfl) (.cons (.free rfl) .nil)))))))))))), rowsZ_one rfl⟩, ⟨rfl, _, rfl, rfl, rfl, rfl, id, rowsCv_one (.cons (.free rfl) (.cons (.free rfl) (.cons (.free rfl) (.cons (.free rfl) (.cons (.free rfl) (.cons (.free rfl) (.cons (.free rfl) (.cons (.free rfl) (.cons (.free rfl) (.cons (.free rfl) (.cons (.free rfl) (.cons (.free rfl) .nil)))))))))))), rowsZ_one rfl⟩, trivial⟩ trivial rfl rfl ?_
    exact ⟨(.ptr rfl), (.ptr rfl), (.ptr rfl), (.free rfl), (.free rfl), trivial⟩
   ·replace h := cond_f h c4
    refine tri_skip ?_
    refine Exists.intro ⟨0, h⟩ ?_
    refine entX [((2, 0), ⟨26, 2, [[.sc (.string p0.apex), .lst 6 (List.map recV p0.l)]], false, true⟩, some (2, 0)), ((3, 0), ⟨50, 12, [[.sc (.int .i64 p1.id), .sc (.bool p1.reply), .sc (.bool p1.auth), .sc (.bool p1.cut), .sc (.bool p1.want), .sc (.bool p1.can), .sc (.int .i64 p1.code), .sc (.string p1.q.name), .sc (.int .i64 p1.q.ty), .lst 6 (List.map recV p1.an), .lst 6 (List.map recV p1.au), .lst 6 (List.map recV p1.ad)]], false, true⟩, some (3, 0)), ((4, 0), ⟨50, 12, [[.sc (.int .i64 0), .sc (.bool false), .sc (.bool false), .sc (.bool false), .sc (.bool false), .sc (.bool false), .sc (.int .i64 0), .sc (.string (⟨#[]⟩ : ByteArray)), .sc (.int .i64 0), .nils, .nils, .nils]], false, true⟩, some (4, 0))] [] ⟨⟨rfl, _, rfl, rfl, rfl, rfl, id, rowsCv_one (.cons (.free rfl) (.cons (.free rfl) .nil)), rowsZ_one rfl⟩, ⟨rfl, _, rfl, rfl, rfl, rfl, id, rowsCv_one (.cons (.free rfl) (.cons (.free rfl) (.cons (.free rfl) (.cons (.free rfl) (.cons (.free rfl) (.cons (.free rfl) (.cons (.free rfl) (.cons (.free rfl) (.cons (.free rfl) (.cons (.free rfl) (.cons (.free rfl) (.cons (.free rfl) .nil)))))))))))), rowsZ_one rfl⟩, ⟨rfl, _, rfl, rfl, rfl, rfl, id, rowsCv_one (.cons (.free rfl) (.cons (.free rfl) (.cons (.free rfl) (.cons (.free rfl) (.cons (.free rfl) (.cons (.free rfl) (.cons (.free rfl) (.cons (.free rfl) (.cons (.free rfl) (.cons (.free rfl) (.cons (.free rfl) (.cons (.free rfl) .nil)))))))))))), rowsZ_one rfl⟩, trivial⟩ trivial rfl rfl ?_
    exact ⟨(.ptr rfl), (.ptr rfl), (.ptr rfl), (.free rfl), (.free rfl), trivial⟩
 ·rintro ⟨j0_0, h⟩
  replace h : i_Serve_j0 p0 p1 x1 j0_0 = some r0 := h
  unfold i_Serve_j0 at h
  show Tri _ _ _ (inv_i_Serve_0 p0 p1 x1 j0_0)
  refine tri_seq ?_
  refine tri_draw mixed ?_
  refine s_loadR rfl rfl rfl rfl ty50 rfl rfl rfl ?_
  refine m1 ?_
  refine m1 ?_
  refine s_of (st_neI rfl rfl rfl) rfl rfl rfl rfl ?_
  refine m1 ?_
  refine s_split (t := 20) rfl (fun b3 => ?_) (fun b3 => ?_)
  ·replace h := cond_t h b3
   refine m1 ?_
   refine s_of (st_neI rfl rfl rfl) rfl rfl rfl rfl ?_
   refine s_pickT rfl rfl (by conv => lhs; whnf) rfl rfl rfl ?_
   refine s_loadR rfl rfl rfl rfl ty26 rfl rfl rfl ?_
   refine s_fieldAddr rfl rfl fd50_7 rfl rfl rfl rfl ?_
   refine s_load (v := .agg (questV p1.q)) rfl rfl rfl rfl ty28 rfl (.inl rfl) rfl rfl rfl rfl ?_
   refine bnd1_elim h fun x4 q5 h => ?_
   refine s_callN (kb := []) (ns := []) (v := .ref (27, 0) 0 x4.length) rfl rfl cl57 (wi_AnswerIn p0 p1.q x4 q5) rfl (.cons (relAgg rfl) (.cons (relAgg rfl) .nil)) trivial memNil .nil memNil rfl ⟨(allSc_map recV_sc), trivial⟩ memNil rfl (by simp only [V.mat, V.mat1, V.mat0, matL, matT, List.length_map] <;> rfl) rfl rfl rfl rfl ?_
   refine bnd1_elim h fun x6 q7 h => ?_
   refine s_callZ (kb := [(27, 0)]) (ns := []) (v := .lst 6 (List.map recV x6)) rfl rfl cl105 (wi_some x4 x6 q7) rfl (.cons (lendL rfl (.head _) rfl recV_free recV_len) .nil) trivial memNil .nil (fun _ _ => List.not_mem_nil) ⟨⟨_, rfl, rfl⟩, trivial⟩ rfl trivial memNil rfl rfl rfl rfl rfl rfl ?_
   refine s_loadR rfl rfl rfl rfl ty26 rfl rfl rfl ?_
   refine s_fieldAddr rfl rfl fd50_7 rfl rfl rfl rfl ?_
   refine s_load (v := .agg (questV p1.q)) rfl rfl rfl rfl ty28 rfl (.inl rfl) rfl rfl rfl rfl ?_
   refine bnd1_elim h fun x8 q9 h => ?_
   refine s_callN (kb := []) (ns := []) (v := .ref (32, 0) 0 x8.length) rfl rfl cl59 (wi_MoreIn p0 p1.q x8 q9) rfl (.cons (relAgg rfl) (.cons (relAgg rfl) .nil)) trivial memNil .nil memNil rfl ⟨(allSc_map recV_sc), trivial⟩ memNil rfl (by simp only [V.mat, V.mat1, V.mat0, matL, matT, List.length_map] <;> rfl) rfl rfl rfl rfl ?_
   refine bnd1_elim h fun x10 q11 h => ?_
   refine s_callZ (kb := [(32, 0)]) (ns := []) (v := .lst 6 (List.map recV x10)) rfl rfl cl105 (wi_some x8 x10 q11) rfl (.cons (lendL rfl (.head _) rfl recV_free recV_len) .nil) trivial memNil .nil (fun _ _ => List.not_mem_nil) ⟨⟨_, rfl, rfl⟩, trivial⟩ rfl trivial memNil rfl rfl rfl rfl rfl rfl ?_
   refine s_loadR rfl rfl rfl rfl ty26 rfl rfl rfl ?_
   refine s_fieldAddr rfl rfl fd50_7 rfl rfl rfl rfl ?_
   refine s_load (v := .agg (questV p1.q)) rfl rfl rfl rfl ty28 rfl (.inl rfl) rfl rfl rfl rfl ?_
   refine bnd1_elim h fun x12 q13 h => ?_
   refine s_callN (kb := []) (ns := []) (v := .ref (37, 0) 0 x12.length) rfl rfl cl61 (wi_HelpIn p0 p1.q x12 q13) rfl (.cons (relAgg rfl) (.cons (relAgg rfl) .nil)) trivial memNil .nil memNil rfl ⟨(allSc_map recV_sc), trivial⟩ memNil rfl (by simp only [V.mat, V.mat1, V.mat0, matL, matT, List.length_map] <;> rfl) rfl rfl rfl rfl ?_
   refine bnd1_elim h fun x14 q15 h => ?_
   refine s_callZ (kb := [(37, 0)]) (ns := []) (v := .lst 6 (List.map recV x14)) rfl rfl cl105 (wi_some x12 x14 q15) rfl (.cons (lendL rfl (.head _) rfl recV_free recV_len) .nil) trivial memNil .nil (fun _ _ => List.not_mem_nil) ⟨⟨_, rfl, rfl⟩, trivial⟩ rfl trivial memNil rfl rfl rfl rfl rfl rfl ?_
   refine bnd1_elim h fun x16 q17 h => ?_
   refine s_callN (kb := []) (ns := []) (v := .agg [.sc (.int .i64 x16.id), .sc (.bool x16.reply), .sc (.bool x16.auth), .sc (.bool x16.cut), .sc (.bool x16.want), .sc (.bool x16.can), .sc (.int .i64 x16.code), .sc (.string x16.q.name), .sc (.int .i64 x16.q.ty), .ref (39, 9) 0 x16.an.length, .ref (39, 10) 0 x16.au.length, .ref (39, 11) 0 x16.ad.length]) rfl rfl cl104 (wi_ReplyTo p1 j0_0 (!decide (x1 = 1)) x6 x10 x14 x16 q17) rfl (.cons (relAgg rfl) (.cons (.free rfl) (.cons (.free rfl) (.cons (.free rfl) (.cons (.free rfl) (.cons (.free rfl) .nil)))))) trivial memNil .nil memNil rfl ⟨(allSc_map recV_sc), ⟨(allSc_map recV_sc), ⟨(allSc_map recV_sc), trivial⟩⟩⟩ memNil rfl (by simp only [V.mat, V.mat1, V.mat0, matL, matT, List.length_map] <;> rfl) rfl rfl rfl rfl ?_
   refine s_storeB rfl rfl rfl ty50 rfl rfl rfl rfl rfl ?_
   refine rt_nil ⟨by kernel_rfl, ?_⟩
   refine tri_ret ?_
   have e0 := (some1 h); subst e0
   exact endY (v' := .agg [.sc (.int .i64 x16.id), .sc (.bool x16.reply), .sc (.bool x16.auth), .sc (.bool x16.cut), .sc (.bool x16.want), .sc (.bool x16.can), .sc (.int .i64 x16.code), .sc (.string x16.q.name), .sc (.int .i64 x16.q.ty), .ref (2000, 9) 0 x16.an.length, .ref (2000, 10) 0 x16.au.length, .ref (2000, 11) 0 x16.ad.length]) [((2000, 9), ⟨39, 6, List.map recV x16.an, false, true⟩, some (39, 9)), ((2000, 10), ⟨39, 6, List.map recV x16.au, false, true⟩, some (39, 10)), ((2000, 11), ⟨39, 6, List.map recV x16.ad, false, true⟩, some (39, 11))] [] (rvC (resCell rfl rfl ty50) rvN) ⟨⟨rfl, _, rfl, rfl, rfl, rfl, id, rowsCv_eq rfl (allFree_map recV_free), rowsZ_map recV_len⟩, ⟨rfl, _, rfl, rfl, rfl, rfl, id, rowsCv_eq rfl (allFree_map recV_free), rowsZ_map recV_len⟩, ⟨rfl, _, rfl, rfl, rfl, rfl, id, rowsCv_eq rfl (allFree_map recV_free), rowsZ_map recV_len⟩, trivial⟩ trivial rfl rfl (by kernel_rfl) (by simp only [V.mat, V.mat1, V.mat0, matL, matT, List.length_map] <;> rfl) (CvL.agg (.cons (.free rfl) (.cons (.free rfl) (.cons (.free rfl) (.cons (.free rfl) (.cons (.free rfl) (.cons (.free rfl) (.cons (.free rfl) (.cons (.free rfl) (.cons (.free rfl) (.cons (.ref rfl) (.cons (.ref rfl) (.cons (.ref rfl) .nil)))))))))))))
  ·replace h := cond_f h b3
   refine s_skip rfl rfl rfl ?_
   refine s_skip rfl rfl rfl ?_
   refine s_pickF rfl rfl (v := .sc (.bool false)) rfl rfl rfl rfl ?_
   refine s_loadR rfl rfl rfl rfl ty26 rfl rfl rfl ?_
   refine s_fieldAddr rfl rfl fd50_7 rfl rfl rfl rfl ?_
   refine s_load (v := .agg (questV p1.q)) rfl rfl rfl rfl ty28 rfl (.inl rfl) rfl rfl rfl rfl ?_
   refine bnd1_elim h fun x18 q19 h => ?_
   refine s_callN (kb := []) (ns := []) (v := .ref (27, 0) 0 x18.length) rfl rfl cl57 (wi_AnswerIn p0 p1.q x18 q19) rfl (.cons (relAgg rfl) (.cons (relAgg rfl) .nil)) trivial memNil .nil memNil rfl ⟨(allSc_map recV_sc), trivial⟩ memNil rfl (by simp only [V.mat, V.mat1, V.mat0, matL, matT, List.length_map] <;> rfl) rfl rfl rfl rfl ?_
   refine bnd1_elim h fun x20 q21 h => ?_
   refine s_callZ (kb := [(27, 0)]) (ns := []) (v := .lst 6 (List.map recV x20)) rfl rfl cl105 (wi_some x18 x20 q21) rfl (.cons (lendL rfl (.head _) rfl recV_free recV_len) .nil) trivial memNil .nil (fun _ _ => List.not_mem_nil) ⟨⟨_, rfl, rfl⟩, trivial⟩ rfl trivial memNil rfl rfl rfl rfl rfl rfl ?_
   refine s_loadR rfl rfl rfl rfl ty26 rfl rfl rfl ?_
   refine s_fieldAddr rfl rfl fd50_7 rfl rfl rfl rfl ?_
   refine s_load (v := .agg (questV p1.q)) rfl rfl rfl rfl ty28 rfl (.inl rfl) rfl rfl rfl rfl ?_
   refine bnd1_elim h fun x22 q23 h => ?_
   refine s_callN (kb := []) (ns := []) (v := .ref (32, 0) 0 x22.length) rfl rfl cl59 (wi_MoreIn p0 p1.q x22 q23) rfl (.cons (relAgg rfl) (.cons (relAgg rfl) .nil)) trivial memNil .nil memNil rfl ⟨(allSc_map recV_sc), trivial⟩ memNil rfl (by simp only [V.mat, V.mat1, V.mat0, matL, matT, List.length_map] <;> rfl) rfl rfl rfl rfl ?_
   refine bnd1_elim h fun x24 q25 h => ?_
   refine s_callZ (kb := [(32, 0)]) (ns := []) (v := .lst 6 (List.map recV x24)) rfl rfl cl105 (wi_some x22 x24 q25) rfl (.cons (lendL rfl (.head _) rfl recV_free recV_len) .nil) trivial memNil .nil (fun _ _ => List.not_mem_nil) ⟨⟨_, rfl, rfl⟩, trivial⟩ rfl trivial memNil rfl rfl rfl rfl rfl rfl ?_
   refine s_loadR rfl rfl rfl rfl ty26 rfl rfl rfl ?_
   refine s_fieldAddr rfl rfl fd50_7 rfl rfl rfl rfl ?_
   refine s_load (v := .agg (questV p1.q)) rfl rfl rfl rfl ty28 rfl (.inl rfl) rfl rfl rfl rfl ?_
   refine bnd1_elim h fun x26 q27 h => ?_
   refine s_callN (kb := []) (ns := []) (v := .ref (37, 0) 0 x26.length) rfl rfl cl61 (wi_HelpIn p0 p1.q x26 q27) rfl (.cons (relAgg rfl) (.cons (relAgg rfl) .nil)) trivial memNil .nil memNil rfl ⟨(allSc_map recV_sc), trivial⟩ memNil rfl (by simp only [V.mat, V.mat1, V.mat0, matL, matT, List.length_map] <;> rfl) rfl rfl rfl rfl ?_
   refine bnd1_elim h fun x28 q29 h => ?_
   refine s_callZ (kb := [(37, 0)]) (ns := []) (v := .lst 6 (List.map recV x28)) rfl rfl cl105 (wi_some x26 x28 q29) rfl (.cons (lendL rfl (.head _) rfl recV_free recV_len) .nil) trivial memNil .nil (fun _ _ => List.not_mem_nil) ⟨⟨_, rfl, rfl⟩, trivial⟩ rfl trivial memNil rfl rfl rfl rfl rfl rfl ?_
   refine bnd1_elim h fun x30 q31 h => ?_
   refine s_callN (kb := []) (ns := []) (v := .agg [.sc (.int .i64 x30.id), .sc (.bool x30.reply), .sc (.bool x30.auth), .sc (.bool x30.cut), .sc (.bool x30.want), .sc (.bool x30.can), .sc (.int .i64 x30.code), .sc (.string x30.q.name), .sc (.int .i64 x30.q.ty), .ref (39, 9) 0 x30.an.length, .ref (39, 10) 0 x30.au.length, .ref (39, 11) 0 x30.ad.length]) rfl rfl cl104 (wi_ReplyTo p1 j0_0 false x20 x24 x28 x30 q31) rfl (.cons (relAgg rfl) (.cons (.free rfl) (.cons (.free rfl) (.cons (.free rfl) (.cons (.free rfl) (.cons (.free rfl) .nil)))))) trivial memNil .nil memNil rfl ⟨(allSc_map recV_sc), ⟨(allSc_map recV_sc), ⟨(allSc_map recV_sc), trivial⟩⟩⟩ memNil rfl (by simp only [V.mat, V.mat1, V.mat0, matL, matT, List.length_map] <;> rfl) rfl rfl rfl rfl ?_
   refine s_storeB rfl rfl rfl ty50 rfl rfl rfl rfl rfl ?_
   refine rt_nil ⟨by kernel_rfl, ?_⟩
   refine tri_ret ?_
   have e0 := (some1 h); subst e0
   exact endY (v' := .agg [.sc (.int .i64 x30.id), .sc (.bool x30.reply), .sc (.bool x30.auth), .sc (.bool x30.cut), .sc (.bool x30.want), .sc (.bool x30.can), .sc (.int .i64 x30.code), .sc (.string x30.q.name), .sc (.int .i64 x30.q.ty), .ref (2000, 9) 0 x30.an.length, .ref (2000, 10) 0 x30.au.length, .ref (2000, 11) 0 x30.ad.length]) [((2000, 9), ⟨39, 6, List.map recV x30.an, false, true⟩, some (39, 9)), ((2000, 10), ⟨39, 6, List.map recV x30.au, false, true⟩, some (39, 10)), ((2000, 11), ⟨39, 6, List.map recV x30.ad, false, true⟩, some (39, 11))] [] (rvC (resCell rfl rfl ty50) rvN) ⟨⟨rfl, _, rfl, rfl, rfl, rfl, id, rowsCv_eq rfl (allFree_map recV_free), rowsZ_map recV_len⟩, ⟨rfl, _, rfl, rfl, rfl, rfl, id, rowsCv_eq rfl (allFree_map recV_free), rowsZ_map recV_len⟩, ⟨rfl, _, rfl, rfl, rfl, rfl, id, rowsCv_eq rfl (allFree_map recV_free), rowsZ_map recV_len⟩, trivial⟩ trivial rfl rfl (by kernel_rfl) (by simp only [V.mat, V.mat1, V.mat0, matL, matT, List.length_map] <;> rfl) (CvL.agg (.cons (.free rfl) (.cons (.free rfl) (.cons (.free rfl) (.cons (.free rfl) (.cons (.free rfl) (.cons (.free rfl) (.cons (.free rfl) (.cons (.free rfl) (.cons (.free rfl) (.cons (.ref rfl) (.cons (.ref rfl) (.cons (.ref rfl) .nil)))))))))))))

/- impl.DownIn -/
def inv_i_DownIn_1 (p0 : MMsg) (p1 : ByteArray) (v0_0 : Nat) (e0 : Rec) (j1_0 : Bool) : St := mkT 41 [(1, .sc (.string p1)), (2, .ptr (2, 0) 0 0), (7, .ptr (7, 0) 0 0), (9, .lst 6 (List.map recV p0.au)), (10, .sc (.int .i64 (p0.au.length : Int))), (11, .sc (.int .i64 (v0_0 : Int))), (37, .sc (.bool j1_0))] [((2, 0), some ⟨50, 12, [[.sc (.int .i64 p0.id), .sc (.bool p0.reply), .sc (.bool p0.auth), .sc (.bool p0.cut), .sc (.bool p0.want), .sc (.bool p0.can), .sc (.int .i64 p0.code), .sc (.string p0.q.name), .sc (.int .i64 p0.q.ty), .lst 6 (List.map recV p0.an), .lst 6 (List.map recV p0.au), .lst 6 (List.map recV p0.ad)]], false, true⟩), ((7, 0), some ⟨39, 6, [[.sc (.string e0.name), .sc (.int .i64 e0.ty), .sc (.int .i64 e0.ttl), .sc (.int .i64 e0.n), .sc (.string e0.host), .sc (.string e0.text)]], false, true⟩)]
def inv_i_DownIn_0 (p0 : MMsg) (p1 : ByteArray) (v0_0 : Nat) : St := mkT 41 [(1, .sc (.string p1)), (2, .ptr (2, 0) 0 0), (9, .lst 6 (List.map recV p0.au)), (10, .sc (.int .i64 (p0.au.length : Int))), (11, .sc (.int .i64 (v0_0 : Int)))] [((2, 0), some ⟨50, 12, [[.sc (.int .i64 p0.id), .sc (.bool p0.reply), .sc (.bool p0.auth), .sc (.bool p0.cut), .sc (.bool p0.want), .sc (.bool p0.can), .sc (.int .i64 p0.code), .sc (.string p0.q.name), .sc (.int .i64 p0.q.ty), .lst 6 (List.map recV p0.an), .lst 6 (List.map recV p0.au), .lst 6 (List.map recV p0.ad)]], false, true⟩)]
set_option maxRecDepth 4000 in
set_option maxHeartbeats 800000 in
theorem wi_DownIn (p0 : MMsg) (p1 : ByteArray) (r0 : ByteArray) (r1 : Bool) (h : i_DownIn p0 p1 = some (r0, r1)) : Runs Tryd.prog 28 [.agg (mMsgV p0), .sc (.string p1)] [] (.tup [.sc (.string r0), .sc (.bool r1)]) [] := by
 unfold i_DownIn at h
 refine runsR [.tmp 4, .tmp 5] Tryd.func28 rfl rfl rfl rfl ?_
 rw [Tryd.ntmps28]
 refine tri_sr ?_
 refine s_box rfl rfl rfl rfl rfl rfl rfl ?_
 refine s_mv (.inr rfl) (v := .sc (.string (⟨#[]⟩ : ByteArray))) rfl rfl rfl rfl ?_
 refine s_mv (.inr rfl) (v := .sc (.bool false)) rfl rfl rfl rfl ?_
 refine rt_nil ?_
 refine tri_seq ?_
 refine tri_sr ?_
 refine s_fieldAddr rfl rfl fd50_9 rfl rfl rfl rfl ?_
 refine s_load rfl rfl rfl rfl ty24 rfl (.inr rfl) (by conv => lhs; whnf) rfl rfl rfl ?_
 refine s_lenL rfl sl24 rfl rfl rfl rfl ?_
 refine s_mv (.inl rfl) (v := .sc (.int .i64 0)) rfl rfl rfl rfl ?_
 refine rt_nil ?_
 refine tri_block ?_
 refine tri_aggM 0 10 rfl rfl (fun hl0 => ?_)
 refine tri_loop (ι := { p : (List Rec) × Nat // p0.au.drop p.2 = p.1 ∧ i_DownIn_l0 p0 p1 p.1 p.2 = some (r0, r1) }) (fun p => inv_i_DownIn_0 p0 p1 p.1.2) (fun p => p.1.1.length) ⟨(p0.au, 0), rfl, h⟩ ?_ ?_
 ·skip
  refine entX [((2, 0), ⟨50, 12, [[.sc (.int .i64 p0.id), .sc (.bool p0.reply), .sc (.bool p0.auth), .sc (.bool p0.cut), .sc (.bool p0.want), .sc (.bool p0.can), .sc (.int .i64 p0.code), .sc (.string p0.q.name), .sc (.int .i64 p0.q.ty), .lst 6 (List.map recV p0.an), .lst 6 (List.map recV p0.au), .lst 6 (List.map recV p0.ad)]], false, true⟩, some (2, 0))] [] ⟨⟨rfl, _, rfl, rfl, rfl, rfl, id, rowsCv_one (.cons (.free rfl) (.cons (.free rfl) (.cons (.free rfl) (.cons (.free rfl) (.cons (.free rfl) (.cons (.free rfl) (.cons (.free rfl) (.cons (.free rfl) (.cons (.free rfl) (.cons (.free rfl) (.cons (.free rfl) (.cons (.free rfl) .nil)))))))))))), rowsZ_one rfl⟩, trivial⟩ trivial rfl rfl ?_
  exact ⟨(.free rfl), (.ptr rfl), (.free rfl), (.free rfl), (.free rfl), trivial⟩
 ·rintro ⟨⟨lrs0, v0_0⟩, hd0, h⟩
  replace hd0 : p0.au.drop v0_0 = lrs0 := hd0
  replace h : i_DownIn_l0 p0 p1 lrs0 v0_0 = some (r0, r1) := h
  show Tri _ _ _ (inv_i_DownIn_0 p0 p1 v0_0)
  refine tri_sr ?_
  refine s_of (st_lss rfl rfl rfl) rfl rfl rfl rfl ?_
  refine rt_nil ?_
  refine tri_seq ?_
  refine tri_cond rfl (fun c1 => ?_) (fun c1 => ?_)
  ·refine drop_elim hd0 c1 fun e0 rs0 he hx0 hn0 => ?_
   subst he
   rw [i_DownIn_l0] at h
   refine tri_skip ?_
   refine tri_seq ?_
   refine tri_block ?_
   refine tri_sr ?_
   refine s_indexF (i := v0_0) rfl rfl rfl sl24 (get_ltM hx0) rfl rfl rfl ?_
   refine s_loadFR rfl rfl (rowG hx0) ty39 rfl rfl rfl ?_
   refine s_alloc rfl rfl rfl zc39 rfl rfl rfl rfl rfl ?_
   refine s_storeB rfl rfl rfl ty39 rfl rfl rfl rfl rfl ?_
   refine rt_nil ?_
   refine tri_cutI (ι := { p : Bool // i_DownIn_j1 v0_0 e0 (i_DownIn_l0 p0 p1 rs0) p = some (r0, r1) }) (fun p => inv_i_DownIn_1 p0 p1 v0_0 e0 p.1) ?_ ?_
   ·skip
    refine tri_region ?_
    refine s_fieldAddr rfl rfl fd39_1 rfl rfl rfl rfl ?_
    refine s_load rfl rfl rfl rfl ty3 rfl (.inr rfl) (by conv => lhs; whnf) rfl rfl rfl ?_
    refine s_of (st_eqI rfl rfl rfl) rfl rfl rfl rfl ?_
    refine m1 ?_
    refine s_split (t := 18) rfl (fun b2 => ?_) (fun b2 => ?_)
    ·replace h := cond_t h b2
     refine s_fieldAddr rfl rfl fd39_0 rfl rfl rfl rfl ?_
     refine s_load rfl rfl rfl rfl ty9 rfl (.inr rfl) (by conv => lhs; whnf) rfl rfl rfl ?_
     refine m1 ?_
     refine s_of (st_neS rfl rfl rfl) rfl rfl rfl rfl ?_
     refine s_pickT rfl rfl (by conv => lhs; whnf) rfl rfl rfl ?_
     refine m1 ?_
     refine s_split (t := 24) rfl (fun b3 => ?_) (fun b3 => ?_)
     ·replace h := cond_t h b3
      refine s_fieldAddr rfl rfl fd39_0 rfl rfl rfl rfl ?_
      refine s_load rfl rfl rfl rfl ty9 rfl (.inr rfl) (by conv => lhs; whnf) rfl rfl rfl ?_
      refine m1 ?_
      refine bnd1_elim h fun x4 q5 h => ?_
      refine s_callN (kb := []) (ns := []) (v := .sc (.bool x4)) rfl rfl cl17 (wi_Under e0.name p1 x4 q5) rfl (.cons (.free rfl) (.cons (.free rfl) .nil)) trivial memNil .nil memNil rfl trivial memNil rfl rfl rfl rfl rfl rfl ?_
      refine s_pickT rfl rfl (by conv => lhs; whnf) rfl rfl rfl ?_
      refine m1 ?_
      refine s_split (t := 30) rfl (fun b6 => ?_) (fun b6 => ?_)
      ·replace h := cond_t h b6
       refine s_fieldAddr rfl rfl fd50_7 rfl rfl rfl rfl ?_
       refine s_fieldAddr rfl rfl fd28_0 rfl rfl rfl rfl ?_
       refine s_load rfl rfl rfl rfl ty9 rfl (.inr rfl) (by conv => lhs; whnf) rfl rfl rfl ?_
       refine s_fieldAddr rfl rfl fd39_0 rfl rfl rfl rfl ?_
       refine s_load rfl rfl rfl rfl ty9 rfl (.inr rfl) (by conv => lhs; whnf) rfl rfl rfl ?_
       refine bnd1_elim h fun x7 q8 h => ?_
       refine s_callN (kb := []) (ns := []) (v := .sc (.bool x7)) rfl rfl cl17 (wi_Under p0.q.name e0.name x7 q8) rfl (.cons (.free rfl) (.cons (.free rfl) .nil)) trivial memNil .nil memNil rfl trivial memNil rfl rfl rfl rfl rfl rfl ?_
       refine s_pickT rfl rfl (by conv => lhs; whnf) rfl rfl rfl ?_
       refine rt_nil ?_
       refine Exists.intro ⟨x7, h⟩ ?_
       refine entX [((2, 0), ⟨50, 12, [[.sc (.int .i64 p0.id), .sc (.bool p0.reply), .sc (.bool p0.auth), .sc (.bool p0.cut), .sc (.bool p0.want), .sc (.bool p0.can), .sc (.int .i64 p0.code), .sc (.string p0.q.name), .sc (.int .i64 p0.q.ty), .lst 6 (List.map recV p0.an), .lst 6 (List.map recV p0.au), .lst 6 (List.map recV p0.ad)]], false, true⟩, some (2, 0)), ((7, 0), ⟨39, 6, [[.sc (.string e0.name), .sc (.int .i64 e0.ty), .sc (.int .i64 e0.ttl), .sc (.int .i64 e0.n), .sc (.string e0.host), .sc (.string e0.text)]], false, true⟩, some (7, 0))] [] ⟨⟨rfl, _, rfl, rfl, rfl, rfl, id, rowsCv_one (.cons (.free rfl) (.cons (.free rfl) (.cons (.free rfl) (.cons (.free rfl) (.cons (.free rfl) (.cons (.free rfl) (.cons (.free rfl) (.cons (.free rfl) (.cons (.free rfl) (.cons (.free rfl) (.cons (.free rfl) (.cons (.free rfl) .nil)))))))))))), rowsZ_one rfl⟩, ⟨rfl, _, rfl, rfl, rfl, rfl, id, rowsCv_one (.cons (.free rfl) (.cons (.free rfl) (.cons (.free rfl) (.cons (.free rfl) (.cons (.free rfl) (.cons (.free rfl) .nil)))))), rowsZ_one rfl⟩, trivial⟩ trivial rfl rfl ?_
       exact ⟨(.free rfl), (.ptr rfl), (.ptr rfl), (.free rfl), (.free rfl), (.free rfl), (.free rfl), trivial⟩
      ·replace h := cond_f h b6
       refine s_skip rfl rfl rfl ?_
       refine s_skip rfl rfl rfl ?_
       refine s_skip rfl rfl rfl ?_
       refine s_skip rfl rfl rfl ?_
       refine s_skip rfl rfl rfl ?_
       refine s_skip rfl rfl rfl ?_
       refine s_pickF rfl rfl (v := .sc (.bool false)) rfl rfl rfl rfl ?_
       refine rt_nil ?_
       refine Exists.intro ⟨false, h⟩ ?_
       refine entX [((2, 0), ⟨50, 12, [[.sc (.int .i64 p0.id), .sc (.bool p0.reply), .sc (.bool p0.auth), .sc (.bool p0.cut), .sc (.bool p0.want), .sc (.bool p0.can), .sc (.int .i64 p0.code), .sc (.string p0.q.name), .sc (.int .i64 p0.q.ty), .lst 6 (List.map recV p0.an), .lst 6 (List.map recV p0.au), .lst 6 (List.map recV p0.ad)]], false, true⟩, some (2, 0)), ((7, 0), ⟨39, 6, [[.sc (.string e0.name), .sc (.int .i64 e0.ty), .sc (.int .i64 e0.ttl), .sc (.int .i64 e0.n), .sc (.string e0.host), .sc (.string e0.text)]], false, true⟩, some (7, 0))] [] ⟨⟨rfl, _, rfl, rfl, rfl, rfl, id, rowsCv_one (.cons (.free rfl) (.cons (.free rfl) (.cons (.free rfl) (.cons (.free rfl) (.cons (.free rfl) (.cons (.free rfl) (.cons (.free rfl) (.cons (.free rfl) (.cons (.free rfl) (.cons (.free rfl) (.cons (.free rfl) (.cons (.free rfl) .nil)))))))))))), rowsZ_one rfl⟩, ⟨rfl, _, rfl, rfl, rfl, rfl, id, rowsCv_one (.cons (.free rfl) (.cons (.free rfl) (.cons (.free rfl) (.cons (.free rfl) (.cons (.free rfl) (.cons (.free rfl) .nil)))))), rowsZ_one rfl⟩, trivial⟩ trivial rfl rfl ?_
       exact ⟨(.free rfl), (.ptr rfl), (.ptr rfl), (.free rfl), (.free rfl), (.free rfl), (.free rfl), trivial⟩
     ·replace h := cond_f h b3
      refine s_skip rfl rfl rfl ?_
      refine s_skip rfl rfl rfl ?_
      refine s_skip rfl rfl rfl ?_
      refine s_skip rfl rfl rfl ?_
      refine s_pickF rfl rfl (v := .sc (.bool false)) rfl rfl rfl rfl ?_
      refine m1 ?_
      refine s_skip rfl rfl rfl ?_
      refine s_skip rfl rfl rfl ?_
      refine s_skip rfl rfl rfl ?_
      refine s_skip rfl rfl rfl ?_
      refine s_skip rfl rfl rfl ?_
      refine s_skip rfl rfl rfl ?_
      refine s_pickF rfl rfl (v := .sc (.bool false)) rfl rfl rfl rfl ?_
      refine rt_nil ?_
      refine Exists.intro ⟨false, h⟩ ?_
      refine entX [((2, 0), ⟨50, 12, [[.sc (.int .i64 p0.id), .sc (.bool p0.reply), .sc (.bool p0.auth), .sc (.bool p0.cut), .sc (.bool p0.want), .sc (.bool p0.can), .sc (.int .i64 p0.code), .sc (.string p0.q.name), .sc (.int .i64 p0.q.ty), .lst 6 (List.map recV p0.an), .lst 6 (List.map recV p0.au), .lst 6 (List.map recV p0.ad)]], false, true⟩, some (2, 0)), ((7, 0), ⟨39, 6, [[.sc (.string e0.name), .sc (.int .i64 e0.ty), .sc (.int .i64 e0.ttl), .sc (.int .i64 e0.n), .sc (.string e0.host), .sc (.string e0.text)]], false, true⟩, some (7, 0))] [] ⟨⟨rfl, _, rfl, rfl, rfl, rfl, id, rowsCv_one (.cons (.free rfl) (.cons (.free rfl) (.cons (.free rfl) (.cons (.free rfl) (.cons (.free rfl) (.cons (.free rfl) (.cons (.free rfl) (.cons (.free rfl) (.cons (.free rfl) (.cons (.free rfl) (.cons (.free rfl) (.cons (.free rfl) .nil)))))))))))), rowsZ_one rfl⟩, ⟨rfl, _, rfl, rfl, rfl, rfl, id, rowsCv_one (.cons (.free rfl) (.cons (.free rfl) (.cons (.free rfl) (.cons (.free rfl) (.cons (.free rfl) (.cons (.free rfl) .nil)))))), rowsZ_one rfl⟩, trivial⟩ trivial rfl rfl ?_
      exact ⟨(.free rfl), (.ptr rfl), (.ptr rfl), (.free rfl), (.free rfl), (.free rfl), (.free rfl), trivial⟩
    ·replace h := cond_f h b2
     refine s_skip rfl rfl rfl ?_
     refine s_skip rfl rfl rfl ?_
     refine s_skip rfl rfl rfl ?_
     refine s_skip rfl rfl rfl ?_
     refine s_pickF rfl rfl (v := .sc (.bool false)) rfl rfl rfl rfl ?_
     refine m1 ?_
     refine s_skip rfl rfl rfl ?_
     refine s_skip rfl rfl rfl ?_
     refine s_skip rfl rfl rfl ?_
     refine s_skip rfl rfl rfl ?_
     refine s_pickF rfl rfl (v := .sc (.bool false)) rfl rfl rfl rfl ?_
     refine m1 ?_
     refine s_skip rfl rfl rfl ?_
     refine s_skip rfl rfl rfl ?_
     refine s_skip rfl rfl rfl ?_
     refine s_skip rfl rfl rfl ?_
     refine s_skip rfl rfl rfl ?_
     refine s_skip rfl rfl rfl ?_
     refine s_pickF rfl rfl (v := .sc (.bool false)) rfl rfl rfl rfl ?_
     refine rt_nil ?_
     refine Exists.intro ⟨false, h⟩ ?_
     refine entX [((2, 0), ⟨50, 12, [[.sc (.int .i64 p0.id), .sc (.bool p0.reply), .sc (.bool p0.auth), .sc (.bool p0.cut), .sc (.bool p0.want), .sc (.bool p0.can), .sc (.int .i64 p0.code), .sc (.string p0.q.name), .sc (.int .i64 p0.q.ty), .lst 6 (List.map recV p0.an), .lst 6 (List.map recV p0.au), .lst 6 (List.map recV p0.ad)]], false, true⟩, some (2, 0)), ((7, 0), ⟨39, 6, [[.sc (.string e0.name), .sc (.int .i64 e0.ty), .sc (.int .i64 e0.ttl), .sc (.int .i64 e0.n), .sc (.string e0.host), .sc (.string e0.text)]], false, true⟩, some (7, 0))] [] ⟨⟨rfl, _, rfl, rfl, rfl, rfl, id, rowsCv_one (.cons (.free rfl) (.cons (.free rfl) (.cons (.free rfl) (.cons (.free rfl) (.cons (.free rfl) (.cons (.free rfl) (.cons (.free rfl) (.cons (.free rfl) (.cons (.free rfl) (.cons (.free rfl) (.cons (.free rfl) (.cons (.free rfl) .nil)))))))))))), rowsZ_one rfl⟩, ⟨rfl, _, rfl, rfl, rfl, rfl, id, rowsCv_one (.cons (.free rfl) (.cons (.free rfl) (.cons (.free rfl) (.cons (.free rfl) (.cons (.free rfl) (.cons (.free rfl) .nil)))))), rowsZ_one rfl⟩, trivial⟩ trivial rfl rfl ?_
     exact ⟨(.free rfl), (.ptr rfl), (.ptr rfl), (.free rfl), (.free rfl), (.free rfl), (.free rfl), trivial⟩
   ·rintro ⟨j1_0, h⟩
    replace h : i_DownIn_j1 v0_0 e0 (i_DownIn_l0 p0 p1 rs0) j1_0 = some (r0, r1) := h
    unfold i_DownIn_j1 at h
    show Tri _ _ _ (inv_i_DownIn_1 p0 p1 v0_0 e0 j1_0)
    refine tri_cond rfl (fun c2 => ?_) (fun c2 => ?_)
    ·replace h := cond_t h c2
     refine tri_sr ?_
     refine s_fieldAddr rfl rfl fd39_0 rfl rfl rfl rfl ?_
     refine s_load rfl rfl rfl rfl ty9 rfl (.inr rfl) (by conv => lhs; whnf) rfl rfl rfl ?_
     refine m2 ?_
     refine s_mv (.inr rfl) (v := .sc (.bool true)) rfl rfl rfl rfl ?_
     refine rt_nil ?_
     refine tri_ret ?_
     have e0 := (some2 h).1; have e1 := (some2 h).2; subst e0; subst e1
     exact endY [] [] (rvC (resTmp rfl) (rvC (resTmp rfl) rvN)) trivial trivial rfl rfl rfl rfl (CvL.tup (.cons (.free rfl) (.cons (.free rfl) .nil)))
    ·replace h := cond_f h c2
     refine tri_skip ?_
     refine tri_region ?_
     refine s_inc (a := v0_0) (b := 1) rfl rfl rfl rfl (by have := get_lt hx0; have := hl0; omega) rfl rfl rfl ?_
     refine m1 ?_
     refine rt_nil ?_
     refine Exists.intro ⟨(rs0, (v0_0 + 1)), hn0, h⟩ (And.intro (Nat.lt_succ_self _) ?_)
     refine entX [((2, 0), ⟨50, 12, [[.sc (.int .i64 p0.id), .sc (.bool p0.reply), .sc (.bool p0.auth), .sc (.bool p0.cut), .sc (.bool p0.want), .sc (.bool p0.can), .sc (.int .i64 p0.code), .sc (.string p0.q.name), .sc (.int .i64 p0.q.ty), .lst 6 (List.map recV p0.an), .lst 6 (List.map recV p0.au), .lst 6 (List.map recV p0.ad)]], false, true⟩, some (2, 0))] [] ⟨⟨rfl, _, rfl, rfl, rfl, rfl, id, rowsCv_one (.cons (.free rfl) (.cons (.free rfl) (.cons (.free rfl) (.cons (.free rfl) (.cons (.free rfl) (.cons (.free rfl) (.cons (.free rfl) (.cons (.free rfl) (.cons (.free rfl) (.cons (.free rfl) (.cons (.free rfl) (.cons (.free rfl) .nil)))))))))))), rowsZ_one rfl⟩, trivial⟩ trivial rfl rfl ?_
     exact ⟨(.free rfl), (.ptr rfl), (.free rfl), (.free rfl), (.free rfl), trivial⟩
  ·have he := drop_f hd0 c1; subst he
   rw [i_DownIn_l0] at h
   refine tri_exit ?_
   refine tri_sr ?_
   refine s_mv (.inr rfl) (v := .sc (.string (⟨#[]⟩ : ByteArray))) rfl rfl rfl rfl ?_
   refine s_mv (.inr rfl) (v := .sc (.bool false)) rfl rfl rfl rfl ?_
   refine rt_nil ?_
   refine tri_ret ?_
   have e0 := (some2 h).1; have e1 := (some2 h).2; subst e0; subst e1
   exact endY [] [] (rvC (resTmp rfl) (rvC (resTmp rfl) rvN)) trivial trivial rfl rfl rfl rfl (CvL.tup (.cons (.free rfl) (.cons (.free rfl) .nil)))

/- impl.AliasIn -/

set_option maxRecDepth 4000 in
set_option maxHeartbeats 800000 in
theorem wi_AliasIn (p0 : MMsg) (r0 : Rec) (r1 : Bool) (h : i_AliasIn p0 = some (r0, r1)) : Runs Tryd.prog 77 [.agg (mMsgV p0)] [] (.tup [.agg (recV r0), .sc (.bool r1)]) [] := by
 unfold i_AliasIn at h
 refine runsR [.cell 2 39, .tmp 3] Tryd.func77 rfl rfl rfl rfl ?_
 rw [Tryd.ntmps77]
 refine tri_sr ?_
 refine s_box rfl rfl rfl rfl rfl rfl rfl ?_
 refine s_alloc rfl rfl rfl zc39 rfl rfl rfl rfl rfl ?_
 refine s_mv (.inr rfl) (v := .sc (.bool false)) rfl rfl rfl rfl ?_
 refine rt_nil ?_
 refine tri_sr ?_
 refine s_fieldAddr rfl rfl fd50_8 rfl rfl rfl rfl ?_
 refine s_load rfl rfl rfl rfl ty24 rfl (.inr rfl) (by conv => lhs; whnf) rfl rfl rfl ?_
 refine s_fieldAddr rfl rfl fd50_7 rfl rfl rfl rfl ?_
 refine s_fieldAddr rfl rfl fd28_0 rfl rfl rfl rfl ?_
 refine s_load rfl rfl rfl rfl ty9 rfl (.inr rfl) (by conv => lhs; whnf) rfl rfl rfl ?_
 refine bnd1_elim h fun x1 q2 h => ?_
 refine s_callN (kb := []) (ns := []) (v := .ref (10, 0) 0 x1.length) rfl rfl cl21 (wi_SetOf p0.an p0.q.name 5 x1 q2) rfl (.cons (.free rfl) (.cons (.free rfl) (.cons (.free rfl) .nil))) trivial memNil .nil memNil rfl ⟨(allSc_map recV_sc), trivial⟩ memNil rfl (by simp only [V.mat, V.mat1, V.mat0, matL, matT, List.length_map] <;> rfl) rfl rfl rfl rfl ?_
 refine m2 ?_
 refine rt_nil ?_
 refine tri_seq ?_
 refine tri_sr ?_
 refine m1 ?_
 refine s_len (m := x1.length) rfl sl24 rfl rfl rfl rfl ?_
 refine s_of (st_eqI rfl rfl rfl) rfl rfl rfl rfl ?_
 refine rt_nil ?_
 refine tri_cond rfl (fun c3 => ?_) (fun c3 => ?_)
 ·replace h := cond_t h c3
  refine tri_sr ?_
  refine s_build (cells' := [.sc (.string (⟨#[]⟩ : ByteArray)), .sc (.int .i64 0), .sc (.int .i64 0), .sc (.int .i64 0), .sc (.string (⟨#[]⟩ : ByteArray)), .sc (.string (⟨#[]⟩ : ByteArray))]) rfl stc39 rfl rfl rfl rfl rfl rfl rfl ?_
  refine s_storeB rfl rfl rfl ty39 rfl rfl rfl rfl rfl ?_
  refine s_mv (.inr rfl) (v := .sc (.bool false)) rfl rfl rfl rfl ?_
  refine rt_nil ?_
  refine tri_ret ?_
  have e0 := (some2 h).1; have e1 := (some2 h).2; subst e0; subst e1
  exact endY [] [] (rvC (resCell rfl rfl ty39) (rvC (resTmp rfl) rvN)) trivial trivial rfl rfl rfl rfl (CvL.tup (.cons (cvAgg rfl) (.cons (.free rfl) .nil)))
 ·replace h := cond_f h c3
  refine tri_skip ?_
  refine tri_sr ?_
  refine m1 ?_
  refine bnd1_elim h fun x4 q5 h => ?_
  have q5a := (idx_some q5).1; have q5b := (idx_some q5).2
  refine s_indexZ rfl rfl rfl rfl sl24 rfl q5a (get_lt q5b) rfl rfl rfl ?_
  refine s_loadR rfl rfl rfl (rowG q5b) ty39 rfl rfl rfl ?_
  refine s_storeB rfl rfl rfl ty39 rfl rfl rfl rfl rfl ?_
  refine s_mv (.inr rfl) (v := .sc (.bool true)) rfl rfl rfl rfl ?_
  refine rt_nil ?_
  refine tri_ret ?_
  have e0 := (some2 h).1; have e1 := (some2 h).2; subst e0; subst e1
  exact endY [] [] (rvC (resCell rfl rfl ty39) (rvC (resTmp rfl) rvN)) trivial trivial rfl rfl rfl rfl (CvL.tup (.cons (cvAgg rfl) (.cons (.free rfl) .nil)))

/- impl.SetIn -/

set_option maxRecDepth 4000 in
set_option maxHeartbeats 800000 in
theorem wi_SetIn (p0 : MMsg) (r0 : List Rec) (h : i_SetIn p0 = some r0) : Runs Tryd.prog 81 [.agg (mMsgV p0)] [] (.own 39 6 (List.map recV r0)) [] := by
 unfold i_SetIn at h
 refine runsR [.tmp 2] Tryd.func81 rfl rfl rfl rfl ?_
 rw [Tryd.ntmps81]
 refine tri_sr ?_
 refine s_box rfl rfl rfl rfl rfl rfl rfl ?_
 refine s_mv (.inr rfl) (v := .nils) rfl rfl rfl rfl ?_
 refine rt_nil ?_
 refine tri_sr ?_
 refine s_fieldAddr rfl rfl fd50_8 rfl rfl rfl rfl ?_
 refine s_load rfl rfl rfl rfl ty24 rfl (.inr rfl) (by conv => lhs; whnf) rfl rfl rfl ?_
 refine s_fieldAddr rfl rfl fd50_7 rfl rfl rfl rfl ?_
 refine s_fieldAddr rfl rfl fd28_0 rfl rfl rfl rfl ?_
 refine s_load rfl rfl rfl rfl ty9 rfl (.inr rfl) (by conv => lhs; whnf) rfl rfl rfl ?_
 refine s_fieldAddr rfl rfl fd50_7 rfl rfl rfl rfl ?_
 refine s_fieldAddr rfl rfl fd28_1 rfl rfl rfl rfl ?_
 refine s_load rfl rfl rfl rfl ty3 rfl (.inr rfl) (by conv => lhs; whnf) rfl rfl rfl ?_
 refine bnd1_elim h fun x1 q2 h => ?_
 refine s_callN (kb := []) (ns := []) (v := .ref (11, 0) 0 x1.length) rfl rfl cl21 (wi_SetOf p0.an p0.q.name p0.q.ty x1 q2) rfl (.cons (.free rfl) (.cons (.free rfl) (.cons (.free rfl) .nil))) trivial memNil .nil memNil rfl ⟨(allSc_map recV_sc), trivial⟩ memNil rfl (by simp only [V.mat, V.mat1, V.mat0, matL, matT, List.length_map] <;> rfl) rfl rfl rfl rfl ?_
 refine m2 ?_
 refine rt_nil ?_
 refine tri_ret ?_
 have e0 := (some1 h); subst e0
 exact endY (v' := .ref (2000, 0) 0 x1.length) [((2000, 0), ⟨39, 6, List.map recV x1, false, true⟩, some (11, 0))] [] (rvC (resTmp rfl) rvN) ⟨⟨rfl, _, rfl, rfl, rfl, rfl, id, rowsCv_eq rfl (allFree_map recV_free), rowsZ_map recV_len⟩, trivial⟩ trivial rfl rfl (by kernel_rfl) (by simp only [V.mat, V.mat1, V.mat0, matL, matT, List.length_map] <;> rfl) (.ref rfl)

/- impl.ClassOf -/
def inv_i_ClassOf_5  (j5_0 : Bool) : St := mkT 94 [(76, .sc (.bool j5_0))] []
def inv_i_ClassOf_4 (p0 : MMsg) (x2 : Bool) (j4_0 : Bool) : St := mkT 94 [(2, .ptr (2, 0) 0 0), (6, .sc (.bool x2)), (67, .sc (.bool j4_0))] [((2, 0), some ⟨50, 12, [[.sc (.int .i64 p0.id), .sc (.bool p0.reply), .sc (.bool p0.auth), .sc (.bool p0.cut), .sc (.bool p0.want), .sc (.bool p0.can), .sc (.int .i64 p0.code), .sc (.string p0.q.name), .sc (.int .i64 p0.q.ty), .lst 6 (List.map recV p0.an), .lst 6 (List.map recV p0.au), .lst 6 (List.map recV p0.ad)]], false, true⟩)]
def inv_i_ClassOf_3 (p0 : MMsg) (x2 : Bool) (j3_0 : Bool) : St := mkT 94 [(2, .ptr (2, 0) 0 0), (6, .sc (.bool x2)), (59, .sc (.bool j3_0))] [((2, 0), some ⟨50, 12, [[.sc (.int .i64 p0.id), .sc (.bool p0.reply), .sc (.bool p0.auth), .sc (.bool p0.cut), .sc (.bool p0.want), .sc (.bool p0.can), .sc (.int .i64 p0.code), .sc (.string p0.q.name), .sc (.int .i64 p0.q.ty), .lst 6 (List.map recV p0.an), .lst 6 (List.map recV p0.au), .lst 6 (List.map recV p0.ad)]], false, true⟩)]
def inv_i_ClassOf_2 (p0 : MMsg) (x2 : Bool) (j2_0 : Bool) : St := mkT 94 [(2, .ptr (2, 0) 0 0), (6, .sc (.bool x2)), (47, .sc (.bool j2_0))] [((2, 0), some ⟨50, 12, [[.sc (.int .i64 p0.id), .sc (.bool p0.reply), .sc (.bool p0.auth), .sc (.bool p0.cut), .sc (.bool p0.want), .sc (.bool p0.can), .sc (.int .i64 p0.code), .sc (.string p0.q.name), .sc (.int .i64 p0.q.ty), .lst 6 (List.map recV p0.an), .lst 6 (List.map recV p0.au), .lst 6 (List.map recV p0.ad)]], false, true⟩)]
def inv_i_ClassOf_1 (p0 : MMsg) (x2 : Bool) (x5 : Bool) (j1_0 : Bool) : St := mkT 94 [(2, .ptr (2, 0) 0 0), (6, .sc (.bool x2)), (8, .sc (.bool x5)), (33, .sc (.bool j1_0))] [((2, 0), some ⟨50, 12, [[.sc (.int .i64 p0.id), .sc (.bool p0.reply), .sc (.bool p0.auth), .sc (.bool p0.cut), .sc (.bool p0.want), .sc (.bool p0.can), .sc (.int .i64 p0.code), .sc (.string p0.q.name), .sc (.int .i64 p0.q.ty), .lst 6 (List.map recV p0.an), .lst 6 (List.map recV p0.au), .lst 6 (List.map recV p0.ad)]], false, true⟩)]
def inv_i_ClassOf_0 (p0 : MMsg) (x2 : Bool) (x5 : Bool) (j0_0 : Bool) : St := mkT 94 [(2, .ptr (2, 0) 0 0), (6, .sc (.bool x2)), (8, .sc (.bool x5)), (20, .sc (.bool j0_0))] [((2, 0), some ⟨50, 12, [[.sc (.int .i64 p0.id), .sc (.bool p0.reply), .sc (.bool p0.auth), .sc (.bool p0.cut), .sc (.bool p0.want), .sc (.bool p0.can), .sc (.int .i64 p0.code), .sc (.string p0.q.name), .sc (.int .i64 p0.q.ty), .lst 6 (List.map recV p0.an), .lst 6 (List.map recV p0.au), .lst 6 (List.map recV p0.ad)]], false, true⟩)]
set_option maxRecDepth 4000 in
set_option maxHeartbeats 800000 in
theorem wi_ClassOf (p0 : MMsg) (p1 : ByteArray) (r0 : Int) (h : i_ClassOf p0 p1 = some r0) : Runs Tryd.prog 26 [.agg (mMsgV p0), .sc (.string p1)] [] (.sc (.int .i64 r0)) [] := by
 unfold i_ClassOf at h
 refine runsR [.tmp 4] Tryd.func26 rfl rfl rfl rfl ?_
 rw [Tryd.ntmps26]
 refine tri_sr ?_
 refine s_box rfl rfl rfl rfl rfl rfl rfl ?_
 refine s_mv (.inr rfl) (v := .sc (.int .i64 0)) rfl rfl rfl rfl ?_
 refine rt_nil ?_
 refine tri_sr ?_
 refine s_loadR rfl rfl rfl rfl ty50 rfl rfl rfl ?_
 refine m1 ?_
 refine bnd2_elim h fun x1 x2 q3 h => ?_
 refine s_callN (kb := []) (ns := []) (v := .tup [.sc (.string x1), .sc (.bool x2)]) rfl rfl cl28 (wi_DownIn p0 p1 x1 x2 q3) rfl (.cons (relAgg rfl) (.cons (.free rfl) .nil)) trivial memNil .nil memNil rfl trivial memNil rfl rfl rfl rfl rfl rfl ?_
 refine m1 ?_
 refine s_extract rfl rfl rfl rfl rfl rfl ?_
 refine s_extract rfl rfl rfl rfl rfl rfl ?_
 refine m2 ?_
 refine m2 ?_
 refine rt_nil ?_
 refine tri_sr ?_
 refine s_loadR rfl rfl rfl rfl ty50 rfl rfl rfl ?_
 refine bnd2_elim h fun x4 x5 q6 h => ?_
 refine s_callN (kb := []) (ns := []) (v := .tup [.agg (recV x4), .sc (.bool x5)]) rfl rfl cl77 (wi_AliasIn p0 x4 x5 q6) rfl (.cons (relAgg rfl) .nil) trivial memNil .nil memNil rfl trivial memNil rfl rfl rfl rfl rfl rfl ?_
 refine m1 ?_
 refine s_extract rfl rfl rfl rfl rfl rfl ?_
 refine s_extract rfl rfl rfl rfl rfl rfl ?_
 refine s_alloc rfl rfl rfl zc39 rfl rfl rfl rfl rfl ?_
 refine s_storeB rfl rfl rfl ty39 rfl rfl rfl rfl rfl ?_
 refine m2 ?_
 refine rt_nil ?_
 refine tri_seq ?_
 refine tri_block ?_
 refine tri_cutI (ι := { p : Bool // i_ClassOf_j0 p0 x2 x5 p = some r0 }) (fun p => inv_i_ClassOf_0 p0 x2 x5 p.1) ?_ ?_
 ·skip
  refine tri_region ?_
  refine s_fieldAddr rfl rfl fd50_3 rfl rfl rfl rfl ?_
  refine s_load rfl rfl rfl rfl ty4 rfl (.inr rfl) (by conv => lhs; whnf) rfl rfl rfl ?_
  refine m1 ?_
  refine s_split (t := 23) rfl (fun b7 => ?_) (fun b7 => ?_)
  ·replace h := cond_t h b7
   refine s_skip rfl rfl rfl ?_
   refine s_skip rfl rfl rfl ?_
   refine s_skip rfl rfl rfl ?_
   refine s_skip rfl rfl rfl ?_
   refine s_skip rfl rfl rfl ?_
   refine s_skip rfl rfl rfl ?_
   refine s_skip rfl rfl rfl ?_
   refine s_skip rfl rfl rfl ?_
   refine s_pickT rfl rfl (v := .sc (.bool true)) rfl rfl rfl rfl ?_
   refine m2 ?_
   refine rt_nil ?_
   refine Exists.intro ⟨true, h⟩ ?_
   refine entX [((2, 0), ⟨50, 12, [[.sc (.int .i64 p0.id), .sc (.bool p0.reply), .sc (.bool p0.auth), .sc (.bool p0.cut), .sc (.bool p0.want), .sc (.bool p0.can), .sc (.int .i64 p0.code), .sc (.string p0.q.name), .sc (.int .i64 p0.q.ty), .lst 6 (List.map recV p0.an), .lst 6 (List.map recV p0.au), .lst 6 (List.map recV p0.ad)]], false, true⟩, some (2, 0))] [] ⟨⟨rfl, _, rfl, rfl, rfl, rfl, id, rowsCv_one (.cons (.free rfl) (.cons (.free rfl) (.cons (.free rfl) (.cons (.free rfl) (.cons (.free rfl) (.cons (.free rfl) (.cons (.free rfl) (.cons (.free rfl) (.cons (.free rfl) (.cons (.free rfl) (.cons (.free rfl) (.cons (.free rfl) .nil)))))))))))), rowsZ_one rfl⟩, trivial⟩ trivial rfl rfl ?_
   exact ⟨(.ptr rfl), (.free rfl), (.free rfl), (.free rfl), trivial⟩
  ·replace h := cond_f h b7
   refine s_fieldAddr rfl rfl fd50_6 rfl rfl rfl rfl ?_
   refine s_load rfl rfl rfl rfl ty3 rfl (.inr rfl) (by conv => lhs; whnf) rfl rfl rfl ?_
   refine s_of (st_neI rfl rfl rfl) rfl rfl rfl rfl ?_
   refine m1 ?_
   refine s_split (t := 27) rfl (fun b8 => ?_) (fun b8 => ?_)
   ·replace h := cond_t h b8
    refine s_fieldAddr rfl rfl fd50_6 rfl rfl rfl rfl ?_
    refine s_load rfl rfl rfl rfl ty3 rfl (.inr rfl) (by conv => lhs; whnf) rfl rfl rfl ?_
    refine s_of (st_neI rfl rfl rfl) rfl rfl rfl rfl ?_
    refine s_pickT rfl rfl (by conv => lhs; whnf) rfl rfl rfl ?_
    refine s_pickF rfl rfl (by conv => lhs; whnf) rfl rfl rfl ?_
    refine m2 ?_
    refine rt_nil ?_
    refine Exists.intro ⟨!decide (p0.code = 3), h⟩ ?_
    refine entX [((2, 0), ⟨50, 12, [[.sc (.int .i64 p0.id), .sc (.bool p0.reply), .sc (.bool p0.auth), .sc (.bool p0.cut), .sc (.bool p0.want), .sc (.bool p0.can), .sc (.int .i64 p0.code), .sc (.string p0.q.name), .sc (.int .i64 p0.q.ty), .lst 6 (List.map recV p0.an), .lst 6 (List.map recV p0.au), .lst 6 (List.map recV p0.ad)]], false, true⟩, some (2, 0))] [] ⟨⟨rfl, _, rfl, rfl, rfl, rfl, id, rowsCv_one (.cons (.free rfl) (.cons (.free rfl) (.cons (.free rfl) (.cons (.free rfl) (.cons (.free rfl) (.cons (.free rfl) (.cons (.free rfl) (.cons (.free rfl) (.cons (.free rfl) (.cons (.free rfl) (.cons (.free rfl) (.cons (.free rfl) .nil)))))))))))), rowsZ_one rfl⟩, trivial⟩ trivial rfl rfl ?_
    exact ⟨(.ptr rfl), (.free rfl), (.free rfl), (.free rfl), trivial⟩
   ·replace h := cond_f h b8
    refine s_skip rfl rfl rfl ?_
    refine s_skip rfl rfl rfl ?_
    refine s_skip rfl rfl rfl ?_
    refine s_pickF rfl rfl (v := .sc (.bool false)) rfl rfl rfl rfl ?_
    refine s_pickF rfl rfl (by conv => lhs; whnf) rfl rfl rfl ?_
    refine m2 ?_
    refine rt_nil ?_
    refine Exists.intro ⟨false, h⟩ ?_
    refine entX [((2, 0), ⟨50, 12, [[.sc (.int .i64 p0.id), .sc (.bool p0.reply), .sc (.bool p0.auth), .sc (.bool p0.cut), .sc (.bool p0.want), .sc (.bool p0.can), .sc (.int .i64 p0.code), .sc (.string p0.q.name), .sc (.int .i64 p0.q.ty), .lst 6 (List.map recV p0.an), .lst 6 (List.map recV p0.au), .lst 6 (List.map recV p0.ad)]], false, true⟩, some (2, 0))] [] ⟨⟨rfl, _, rfl, rfl, rfl, rfl, id, rowsCv_one (.cons (.free rfl) (.cons (.free rfl) (.cons (.free rfl) (.cons (.free rfl) (.cons (.free rfl) (.cons (.free rfl) (.cons (.free rfl) (.cons (.free rfl) (.cons (.free rfl) (.cons (.free rfl) (.cons (.free rfl) (.cons (.free rfl) .nil)))))))))))), rowsZ_one rfl⟩, trivial⟩ trivial rfl rfl ?_
    exact ⟨(.ptr rfl), (.free rfl), (.free rfl), (.free rfl), trivial⟩
 ·rintro ⟨j0_0, h⟩
  replace h : i_ClassOf_j0 p0 x2 x5 j0_0 = some r0 := h
  unfold i_ClassOf_j0 at h
  show Tri _ _ _ (inv_i_ClassOf_0 p0 x2 x5 j0_0)
  refine tri_cond rfl (fun c7 => ?_) (fun c7 => ?_)
  ·replace h := cond_t h c7
   refine tri_sr ?_
   refine s_mv (.inr rfl) (v := .sc (.int .i64 0)) rfl rfl rfl rfl ?_
   refine rt_nil ?_
   refine tri_ret ?_
   have e0 := (some1 h); subst e0
   exact endY [] [] (rvC (resTmp rfl) rvN) trivial trivial rfl rfl rfl rfl (.free rfl)
  ·replace h := cond_f h c7
   refine tri_cutI (ι := { p : Bool // i_ClassOf_j1 p0 x2 x5 p = some r0 }) (fun p => inv_i_ClassOf_1 p0 x2 x5 p.1) ?_ ?_
   ·skip
    refine tri_region ?_
    refine s_fieldAddr rfl rfl fd50_2 rfl rfl rfl rfl ?_
    refine s_load rfl rfl rfl rfl ty4 rfl (.inr rfl) (by conv => lhs; whnf) rfl rfl rfl ?_
    refine m1 ?_
    refine s_split (t := 36) rfl (fun b8 => ?_) (fun b8 => ?_)
    ·replace h := cond_t h b8
     refine s_fieldAddr rfl rfl fd50_6 rfl rfl rfl rfl ?_
     refine s_load rfl rfl rfl rfl ty3 rfl (.inr rfl) (by conv => lhs; whnf) rfl rfl rfl ?_
     refine s_of (st_eqI rfl rfl rfl) rfl rfl rfl rfl ?_
     refine s_pickT rfl rfl (by conv => lhs; whnf) rfl rfl rfl ?_
     refine m1 ?_
     refine s_split (t := 41) rfl (fun b9 => ?_) (fun b9 => ?_)
     ·replace h := cond_t h b9
      refine s_loadR rfl rfl rfl rfl ty50 rfl rfl rfl ?_
      refine bnd1_elim h fun x10 q11 h => ?_
      refine s_callN (kb := []) (ns := []) (v := .ref (43, 0) 0 x10.length) rfl rfl cl81 (wi_SetIn p0 x10 q11) rfl (.cons (relAgg rfl) .nil) trivial memNil .nil memNil rfl ⟨(allSc_map recV_sc), trivial⟩ memNil rfl (by simp only [V.mat, V.mat1, V.mat0, matL, matT, List.length_map] <;> rfl) rfl rfl rfl rfl ?_
      refine s_len (m := x10.length) rfl sl24 rfl rfl rfl rfl ?_
      refine s_of (st_gtr rfl rfl rfl) rfl rfl rfl rfl ?_
      refine s_pickT rfl rfl (by conv => lhs; whnf) rfl rfl rfl ?_
      refine m2 ?_
      refine rt_nil ?_
      refine Exists.intro ⟨decide (0 < (x10.length : Int)), h⟩ ?_
      refine entX [((2, 0), ⟨50, 12, [[.sc (.int .i64 p0.id), .sc (.bool p0.reply), .sc (.bool p0.auth), .sc (.bool p0.cut), .sc (.bool p0.want), .sc (.bool p0.can), .sc (.int .i64 p0.code), .sc (.string p0.q.name), .sc (.int .i64 p0.q.ty), .lst 6 (List.map recV p0.an), .lst 6 (List.map recV p0.au), .lst 6 (List.map recV p0.ad)]], false, true⟩, some (2, 0))] [] ⟨⟨rfl, _, rfl, rfl, rfl, rfl, id, rowsCv_one (.cons (.free rfl) (.cons (.free rfl) (.cons (.free rfl) (.cons (.free rfl) (.cons (.free rfl) (.cons (.free rfl) (.cons (.free rfl) (.cons (.free rfl) (.cons (.free rfl) (.cons (.free rfl) (.cons (.free rfl) (.cons (.free rfl) .nil)))))))))))), rowsZ_one rfl⟩, trivial⟩ trivial rfl rfl ?_
      exact ⟨(.ptr rfl), (.free rfl), (.free rfl), (.free rfl), trivial⟩
     ·replace h := cond_f h b9
      refine s_skip rfl rfl rfl ?_
      refine s_skip rfl rfl rfl ?_
      refine s_skip rfl rfl rfl ?_
      refine s_skip rfl rfl rfl ?_
      refine s_pickF rfl rfl (v := .sc (.bool false)) rfl rfl rfl rfl ?_
      refine m2 ?_
      refine rt_nil ?_
      refine Exists.intro ⟨false, h⟩ ?_
      refine entX [((2, 0), ⟨50, 12, [[.sc (.int .i64 p0.id), .sc (.bool p0.reply), .sc (.bool p0.auth), .sc (.bool p0.cut), .sc (.bool p0.want), .sc (.bool p0.can), .sc (.int .i64 p0.code), .sc (.string p0.q.name), .sc (.int .i64 p0.q.ty), .lst 6 (List.map recV p0.an), .lst 6 (List.map recV p0.au), .lst 6 (List.map recV p0.ad)]], false, true⟩, some (2, 0))] [] ⟨⟨rfl, _, rfl, rfl, rfl, rfl, id, rowsCv_one (.cons (.free rfl) (.cons (.free rfl) (.cons (.free rfl) (.cons (.free rfl) (.cons (.free rfl) (.cons (.free rfl) (.cons (.free rfl) (.cons (.free rfl) (.cons (.free rfl) (.cons (.free rfl) (.cons (.free rfl) (.cons (.free rfl) .nil)))))))))))), rowsZ_one rfl⟩, trivial⟩ trivial rfl rfl ?_
      exact ⟨(.ptr rfl), (.free rfl), (.free rfl), (.free rfl), trivial⟩
    ·replace h := cond_f h b8
     refine s_skip rfl rfl rfl ?_
     refine s_skip rfl rfl rfl ?_
     refine s_skip rfl rfl rfl ?_
     refine s_pickF rfl rfl (v := .sc (.bool false)) rfl rfl rfl rfl ?_
     refine m1 ?_
     refine s_skip rfl rfl rfl ?_
     refine s_skip rfl rfl rfl ?_
     refine s_skip rfl rfl rfl ?_
     refine s_skip rfl rfl rfl ?_
     refine s_pickF rfl rfl (v := .sc (.bool false)) rfl rfl rfl rfl ?_
     refine m2 ?_
     refine rt_nil ?_
     refine Exists.intro ⟨false, h⟩ ?_
     refine entX [((2, 0), ⟨50, 12, [[.sc (.int .i64 p0.id), .sc (.bool p0.reply), .sc (.bool p0.auth), .sc (.bool p0.cut), .sc (.bool p0.want), .sc (.bool p0.can), .sc (.int .i64 p0.code), .sc (.string p0.q.name), .sc (.int .i64 p0.q.ty), .lst 6 (List.map recV p0.an), .lst 6 (List.map recV p0.au), .lst 6 (List.map recV p0.ad)]], false, true⟩, some (2, 0))] [] ⟨⟨rfl, _, rfl, rfl, rfl, rfl, id, rowsCv_one (.cons (.free rfl) (.cons (.free rfl) (.cons (.free rfl) (.cons (.free rfl) (.cons (.free rfl) (.cons (.free rfl) (.cons (.free rfl) (.cons (.free rfl) (.cons (.free rfl) (.cons (.free rfl) (.cons (.free rfl) (.cons (.free rfl) .nil)))))))))))), rowsZ_one rfl⟩, trivial⟩ trivial rfl rfl ?_
     exact ⟨(.ptr rfl), (.free rfl), (.free rfl), (.free rfl), trivial⟩
   ·rintro ⟨j1_0, h⟩
    replace h : i_ClassOf_j1 p0 x2 x5 j1_0 = some r0 := h
    unfold i_ClassOf_j1 at h
    show Tri _ _ _ (inv_i_ClassOf_1 p0 x2 x5 j1_0)
    refine tri_cond rfl (fun c8 => ?_) (fun c8 => ?_)
    ·replace h := cond_t h c8
     refine tri_sr ?_
     refine s_mv (.inr rfl) (v := .sc (.int .i64 3)) rfl rfl rfl rfl ?_
     refine rt_nil ?_
     refine tri_ret ?_
     have e0 := (some1 h); subst e0
     exact endY [] [] (rvC (resTmp rfl) rvN) trivial trivial rfl rfl rfl rfl (.free rfl)
    ·replace h := cond_f h c8
     refine tri_cutI (ι := { p : Bool // i_ClassOf_j2 p0 x2 p = some r0 }) (fun p => inv_i_ClassOf_2 p0 x2 p.1) ?_ ?_
     ·skip
      refine tri_region ?_
      refine s_fieldAddr rfl rfl fd50_2 rfl rfl rfl rfl ?_
      refine s_load rfl rfl rfl rfl ty4 rfl (.inr rfl) (by conv => lhs; whnf) rfl rfl rfl ?_
      refine m1 ?_
      refine s_split (t := 50) rfl (fun b9 => ?_) (fun b9 => ?_)
      ·replace h := cond_t h b9
       refine m1 ?_
       refine s_pickT rfl rfl (by conv => lhs; whnf) rfl rfl rfl ?_
       refine m1 ?_
       refine s_split (t := 53) rfl (fun b10 => ?_) (fun b10 => ?_)
       ·replace h := cond_t h b10
        refine s_fieldAddr rfl rfl fd50_7 rfl rfl rfl rfl ?_
        refine s_fieldAddr rfl rfl fd28_1 rfl rfl rfl rfl ?_
        refine s_load rfl rfl rfl rfl ty3 rfl (.inr rfl) (by conv => lhs; whnf) rfl rfl rfl ?_
        refine s_of (st_neI rfl rfl rfl) rfl rfl rfl rfl ?_
        refine s_pickT rfl rfl (by conv => lhs; whnf) rfl rfl rfl ?_
        refine m2 ?_
        refine rt_nil ?_
        refine Exists.intro ⟨!decide (p0.q.ty = 5), h⟩ ?_
        refine entX [((2, 0), ⟨50, 12, [[.sc (.int .i64 p0.id), .sc (.bool p0.reply), .sc (.bool p0.auth), .sc (.bool p0.cut), .sc (.bool p0.want), .sc (.bool p0.can), .sc (.int .i64 p0.code), .sc (.string p0.q.name), .sc (.int .i64 p0.q.ty), .lst 6 (List.map recV p0.an), .lst 6 (List.map recV p0.au), .lst 6 (List.map recV p0.ad)]], false, true⟩, some (2, 0))] [] ⟨⟨rfl, _, rfl, rfl, rfl, rfl, id, rowsCv_one (.cons (.free rfl) (.cons (.free rfl) (.cons (.free rfl) (.cons (.free rfl) (.cons (.free rfl) (.cons (.free rfl) (.cons (.free rfl) (.cons (.free rfl) (.cons (.free rfl) (.cons (.free rfl) (.cons (.free rfl) (.cons (.free rfl) .nil)))))))))))), rowsZ_one rfl⟩, trivial⟩ trivial rfl rfl ?_
        exact ⟨(.ptr rfl), (.free rfl), (.free rfl), trivial⟩
       ·replace h := cond_f h b10
        refine s_skip rfl rfl rfl ?_
        refine s_skip rfl rfl rfl ?_
        refine s_skip rfl rfl rfl ?_
        refine s_skip rfl rfl rfl ?_
        refine s_pickF rfl rfl (v := .sc (.bool false)) rfl rfl rfl rfl ?_
        refine m2 ?_
        refine rt_nil ?_
        refine Exists.intro ⟨false, h⟩ ?_
        refine entX [((2, 0), ⟨50, 12, [[.sc (.int .i64 p0.id), .sc (.bool p0.reply), .sc (.bool p0.auth), .sc (.bool p0.cut), .sc (.bool p0.want), .sc (.bool p0.can), .sc (.int .i64 p0.code), .sc (.string p0.q.name), .sc (.int .i64 p0.q.ty), .lst 6 (List.map recV p0.an), .lst 6 (List.map recV p0.au), .lst 6 (List.map recV p0.ad)]], false, true⟩, some (2, 0))] [] ⟨⟨rfl, _, rfl, rfl, rfl, rfl, id, rowsCv_one (.cons (.free rfl) (.cons (.free rfl) (.cons (.free rfl) (.cons (.free rfl) (.cons (.free rfl) (.cons (.free rfl) (.cons (.free rfl) (.cons (.free rfl) (.cons (.free rfl) (.cons (.free rfl) (.cons (.free rfl) (.cons (.free rfl) .nil)))))))))))), rowsZ_one rfl⟩, trivial⟩ trivial rfl rfl ?_
        exact ⟨(.ptr rfl), (.free rfl), (.free rfl), trivial⟩
      ·replace h := cond_f h b9
       refine s_skip rfl rfl rfl ?_
       refine s_pickF rfl rfl (v := .sc (.bool false)) rfl rfl rfl rfl ?_
       refine m1 ?_
       refine s_skip rfl rfl rfl ?_
       refine s_skip rfl rfl rfl ?_
       refine s_skip rfl rfl rfl ?_
       refine s_skip rfl rfl rfl ?_
       refine s_pickF rfl rfl (v := .sc (.bool false)) rfl rfl rfl rfl ?_
       refine m2 ?_
       refine rt_nil ?_
       refine Exists.intro ⟨false, h⟩ ?_
       refine entX [((2, 0), ⟨50, 12, [[.sc (.int .i64 p0.id), .sc (.bool p0.reply), .sc (.bool p0.auth), .sc (.bool p0.cut), .sc (.bool p0.want), .sc (.bool p0.can), .sc (.int .i64 p0.code), .sc (.string p0.q.name), .sc (.int .i64 p0.q.ty), .lst 6 (List.map recV p0.an), .lst 6 (List.map recV p0.au), .lst 6 (List.map recV p0.ad)]], false, true⟩, some (2, 0))] [] ⟨⟨rfl, _, rfl, rfl, rfl, rfl, id, rowsCv_one (.cons (.free rfl) (.cons (.free rfl) (.cons (.free rfl) (.cons (.free rfl) (.cons (.free rfl) (.cons (.free rfl) (.cons (.free rfl) (.cons (.free rfl) (.cons (.free rfl) (.cons (.free rfl) (.cons (.free rfl) (.cons (.free rfl) .nil)))))))))))), rowsZ_one rfl⟩, trivial⟩ trivial rfl rfl ?_
       exact ⟨(.ptr rfl), (.free rfl), (.free rfl), trivial⟩
     ·rintro ⟨j2_0, h⟩
      replace h : i_ClassOf_j2 p0 x2 j2_0 = some r0 := h
      unfold i_ClassOf_j2 at h
      show Tri _ _ _ (inv_i_ClassOf_2 p0 x2 j2_0)
      refine tri_cond rfl (fun c9 => ?_) (fun c9 => ?_)
      ·replace h := cond_t h c9
       refine tri_sr ?_
       refine s_mv (.inr rfl) (v := .sc (.int .i64 2)) rfl rfl rfl rfl ?_
       refine rt_nil ?_
       refine tri_ret ?_
       have e0 := (some1 h); subst e0
       exact endY [] [] (rvC (resTmp rfl) rvN) trivial trivial rfl rfl rfl rfl (.free rfl)
      ·replace h := cond_f h c9
       refine tri_cutI (ι := { p : Bool // i_ClassOf_j3 p0 x2 p = some r0 }) (fun p => inv_i_ClassOf_3 p0 x2 p.1) ?_ ?_
       ·skip
        refine tri_region ?_
        refine s_fieldAddr rfl rfl fd50_2 rfl rfl rfl rfl ?_
        refine s_load rfl rfl rfl rfl ty4 rfl (.inr rfl) (by conv => lhs; whnf) rfl rfl rfl ?_
        refine m1 ?_
        refine s_split (t := 62) rfl (fun b10 => ?_) (fun b10 => ?_)
        ·replace h := cond_t h b10
         refine s_fieldAddr rfl rfl fd50_6 rfl rfl rfl rfl ?_
         refine s_load rfl rfl rfl rfl ty3 rfl (.inr rfl) (by conv => lhs; whnf) rfl rfl rfl ?_
         refine s_of (st_eqI rfl rfl rfl) rfl rfl rfl rfl ?_
         refine s_pickT rfl rfl (by conv => lhs; whnf) rfl rfl rfl ?_
         refine m2 ?_
         refine rt_nil ?_
         refine Exists.intro ⟨decide (p0.code = 3), h⟩ ?_
         refine entX [((2, 0), ⟨50, 12, [[.sc (.int .i64 p0.id), .sc (.bool p0.reply), .sc (.bool p0.auth), .sc (.bool p0.cut), .sc (.bool p0.want), .sc (.bool p0.can), .sc (.int .i64 p0.code), .sc (.string p0.q.name), .sc (.int .i64 p0.q.ty), .lst 6 (List.map recV p0.an), .lst 6 (List.map recV p0.au), .lst 6 (List.map recV p0.ad)]], false, true⟩, some (2, 0))] [] ⟨⟨rfl, _, rfl, rfl, rfl, rfl, id, rowsCv_one (.cons (.free rfl) (.cons (.free rfl) (.cons (.free rfl) (.cons (.free rfl) (.cons (.free rfl) (.cons (.free rfl) (.cons (.free rfl) (.cons (.free rfl) (.cons (.free rfl) (.cons (.free rfl) (.cons (.free rfl) (.cons (.free rfl) .nil)))))))))))), rowsZ_one rfl⟩, trivial⟩ trivial rfl rfl ?_
         exact ⟨(.ptr rfl), (.free rfl), (.free rfl), trivial⟩
        ·replace h := cond_f h b10
         refine s_skip rfl rfl rfl ?_
         refine s_skip rfl rfl rfl ?_
         refine s_skip rfl rfl rfl ?_
         refine s_pickF rfl rfl (v := .sc (.bool false)) rfl rfl rfl rfl ?_
         refine m2 ?_
         refine rt_nil ?_
         refine Exists.intro ⟨false, h⟩ ?_
         refine entX [((2, 0), ⟨50, 12, [[.sc (.int .i64 p0.id), .sc (.bool p0.reply), .sc (.bool p0.auth), .sc (.bool p0.cut), .sc (.bool p0.want), .sc (.bool p0.can), .sc (.int .i64 p0.code), .sc (.string p0.q.name), .sc (.int .i64 p0.q.ty), .lst 6 (List.map recV p0.an), .lst 6 (List.map recV p0.au), .lst 6 (List.map recV p0.ad)]], false, true⟩, some (2, 0))] [] ⟨⟨rfl, _, rfl, rfl, rfl, rfl, id, rowsCv_one (.cons (.free rfl) (.cons (.free rfl) (.cons (.free rfl) (.cons (.free rfl) (.cons (.free rfl) (.cons (.free rfl) (.cons (.free rfl) (.cons (.free rfl) (.cons (.free rfl) (.cons (.free rfl) (.cons (.free rfl) (.cons (.free rfl) .nil)))))))))))), rowsZ_one rfl⟩, trivial⟩ trivial rfl rfl ?_
         exact ⟨(.ptr rfl), (.free rfl), (.free rfl), trivial⟩
       ·rintro ⟨j3_0, h⟩
        replace h : i_ClassOf_j3 p0 x2 j3_0 = some r0 := h
        unfold i_ClassOf_j3 at h
        show Tri _ _ _ (inv_i_ClassOf_3 p0 x2 j3_0)
        refine tri_cond rfl (fun c10 => ?_) (fun c10 => ?_)
        ·replace h := cond_t h c10
         refine tri_sr ?_
         refine s_mv (.inr rfl) (v := .sc (.int .i64 5)) rfl rfl rfl rfl ?_
         refine rt_nil ?_
         refine tri_ret ?_
         have e0 := (some1 h); subst e0
         exact endY [] [] (rvC (resTmp rfl) rvN) trivial trivial rfl rfl rfl rfl (.free rfl)
        ·replace h := cond_f h c10
         refine tri_cutI (ι := { p : Bool // i_ClassOf_j4 p0 x2 p = some r0 }) (fun p => inv_i_ClassOf_4 p0 x2 p.1) ?_ ?_
         ·skip
          refine tri_region ?_
          refine s_fieldAddr rfl rfl fd50_2 rfl rfl rfl rfl ?_
          refine s_load rfl rfl rfl rfl ty4 rfl (.inr rfl) (by conv => lhs; whnf) rfl rfl rfl ?_
          refine m1 ?_
          refine s_split (t := 70) rfl (fun b11 => ?_) (fun b11 => ?_)
          ·replace h := cond_t h b11
           refine s_fieldAddr rfl rfl fd50_8 rfl rfl rfl rfl ?_
           refine s_load rfl rfl rfl rfl ty24 rfl (.inr rfl) (by conv => lhs; whnf) rfl rfl rfl ?_
           refine s_lenL rfl sl24 rfl rfl rfl rfl ?_
           refine s_of (st_eqI rfl rfl rfl) rfl rfl rfl rfl ?_
           refine s_pickT rfl rfl (by conv => lhs; whnf) rfl rfl rfl ?_
           refine m2 ?_
           refine rt_nil ?_
           refine Exists.intro ⟨decide ((p0.an.length : Int) = 0), h⟩ ?_
           refine entX [((2, 0), ⟨50, 12, [[.sc (.int .i64 p0.id), .sc (.bool p0.reply), .sc (.bool p0.auth), .sc (.bool p0.cut), .sc (.bool p0.want), .sc (.bool p0.can), .sc (.int .i64 p0.code), .sc (.string p0.q.name), .sc (.int .i64 p0.q.ty), .lst 6 (List.map recV p0.an), .lst 6 (List.map recV p0.au), .lst 6 (List.map recV p0.ad)]], false, true⟩, some (2, 0))] [] ⟨⟨rfl, _, rfl, rfl, rfl, rfl, id, rowsCv_one (.cons (.free rfl) (.cons (.free rfl) (.cons (.free rfl) (.cons (.free rfl) (.cons (.free rfl) (.cons (.free rfl) (.cons (.free rfl) (.cons (.free rfl) (.cons (.free rfl) (.cons (.free rfl) (.cons (.free rfl) (.cons (.free rfl) .nil)))))))))))), rowsZ_one rfl⟩, trivial⟩ trivial rfl rfl ?_
           exact ⟨(.ptr rfl), (.free rfl), (.free rfl), trivial⟩
          ·replace h := cond_f h b11
           refine s_skip rfl rfl rfl ?_
           refine s_skip rfl rfl rfl ?_
           refine s_skip rfl rfl rfl ?_
           refine s_skip rfl rfl rfl ?_
           refine s_pickF rfl rfl (v := .sc (.bool false)) rfl rfl rfl rfl ?_
           refine m2 ?_
           refine rt_nil ?_
           refine Exists.intro ⟨false, h⟩ ?_
           refine entX [((2, 0), ⟨50, 12, [[.sc (.int .i64 p0.id), .sc (.bool p0.reply), .sc (.bool p0.auth), .sc (.bool p0.cut), .sc (.bool p0.want), .sc (.bool p0.can), .sc (.int .i64 p0.code), .sc (.string p0.q.name), .sc (.int .i64 p0.q.ty), .lst 6 (List.map recV p0.an), .lst 6 (List.map recV p0.au), .lst 6 (List.map recV p0.ad)]], false, true⟩, some (2, 0))] [] ⟨⟨rfl, _, rfl, rfl, rfl, rfl, id, rowsCv_one (.cons (.free rfl) (.cons (.free rfl) (.cons (.free rfl) (.cons (.free rfl) (.cons (.free rfl) (.cons (.free rfl) (.cons (.free rfl) (.cons (.free rfl) (.cons (.free rfl) (.cons (.free rfl) (.cons (.free rfl) (.cons (.free rfl) .nil)))))))))))), rowsZ_one rfl⟩, trivial⟩ trivial rfl rfl ?_
           exact ⟨(.ptr rfl), (.free rfl), (.free rfl), trivial⟩
         ·rintro ⟨j4_0, h⟩
          replace h : i_ClassOf_j4 p0 x2 j4_0 = some r0 := h
          unfold i_ClassOf_j4 at h
          show Tri _ _ _ (inv_i_ClassOf_4 p0 x2 j4_0)
          refine tri_cond rfl (fun c11 => ?_) (fun c11 => ?_)
          ·replace h := cond_t h c11
           refine tri_sr ?_
           refine s_mv (.inr rfl) (v := .sc (.int .i64 4)) rfl rfl rfl rfl ?_
           refine rt_nil ?_
           refine tri_ret ?_
           have e0 := (some1 h); subst e0
           exact endY [] [] (rvC (resTmp rfl) rvN) trivial trivial rfl rfl rfl rfl (.free rfl)
          ·replace h := cond_f h c11
           refine tri_cutI (ι := { p : Bool // i_ClassOf_j5 p = some r0 }) (fun p => inv_i_ClassOf_5 p.1) ?_ ?_
           ·skip
            refine tri_region ?_
            refine s_fieldAddr rfl rfl fd50_2 rfl rfl rfl rfl ?_
            refine s_load rfl rfl rfl rfl ty4 rfl (.inr rfl) (by conv => lhs; whnf) rfl rfl rfl ?_
            refine s_of (st_not rfl rfl) rfl rfl rfl rfl ?_
            refine m1 ?_
            refine s_split (t := 80) rfl (fun b12 => ?_) (fun b12 => ?_)
            ·replace h := cond_t h b12
             refine s_fieldAddr rfl rfl fd50_6 rfl rfl rfl rfl ?_
             refine s_load rfl rfl rfl rfl ty3 rfl (.inr rfl) (by conv => lhs; whnf) rfl rfl rfl ?_
             refine s_of (st_eqI rfl rfl rfl) rfl rfl rfl rfl ?_
             refine s_pickT rfl rfl (by conv => lhs; whnf) rfl rfl rfl ?_
             refine m1 ?_
             refine s_split (t := 85) rfl (fun b13 => ?_) (fun b13 => ?_)
             ·replace h := cond_t h b13
              refine s_fieldAddr rfl rfl fd50_8 rfl rfl rfl rfl ?_
              refine s_load rfl rfl rfl rfl ty24 rfl (.inr rfl) (by conv => lhs; whnf) rfl rfl rfl ?_
              refine s_lenL rfl sl24 rfl rfl rfl rfl ?_
              refine s_of (st_eqI rfl rfl rfl) rfl rfl rfl rfl ?_
              refine s_pickT rfl rfl (by conv => lhs; whnf) rfl rfl rfl ?_
              refine m1 ?_
              refine s_split (t := 91) rfl (fun b14 => ?_) (fun b14 => ?_)
              ·replace h := cond_t h b14
               refine m1 ?_
               refine s_pickT rfl rfl (by conv => lhs; whnf) rfl rfl rfl ?_
               refine m2 ?_
               refine rt_nil ?_
               refine Exists.intro ⟨x2, h⟩ ?_
               refine entX [] [] trivial trivial rfl rfl ?_
               exact ⟨(.free rfl), trivial⟩
              ·replace h := cond_f h b14
               refine s_skip rfl rfl rfl ?_
               refine s_pickF rfl rfl (v := .sc (.bool false)) rfl rfl rfl rfl ?_
               refine m2 ?_
               refine rt_nil ?_
               refine Exists.intro ⟨false, h⟩ ?_
               refine entX [] [] trivial trivial rfl rfl ?_
               exact ⟨(.free rfl), trivial⟩
             ·replace h := cond_f h b13
              refine s_skip rfl rfl rfl ?_
              refine s_skip rfl rfl rfl ?_
              refine s_skip rfl rfl rfl ?_
              refine s_skip rfl rfl rfl ?_
              refine s_pickF rfl rfl (v := .sc (.bool false)) rfl rfl rfl rfl ?_
              refine m1 ?_
              refine s_skip rfl rfl rfl ?_
              refine s_pickF rfl rfl (v := .sc (.bool false)) rfl rfl rfl rfl ?_
              refine m2 ?_
              refine rt_nil ?_
              refine Exists.intro ⟨false, h⟩ ?_
              refine entX [] [] trivial trivial rfl rfl ?_
              exact ⟨(.free rfl), trivial⟩
            ·replace h := cond_f h b12
             refine s_skip rfl rfl rfl ?_
             refine s_skip rfl rfl rfl ?_
             refine s_skip rfl rfl rfl ?_
             refine s_pickF rfl rfl (v := .sc (.bool false)) rfl rfl rfl rfl ?_
             refine m1 ?_
             refine s_skip rfl rfl rfl ?_
             refine s_skip rfl rfl rfl ?_
             refine s_skip rfl rfl rfl ?_
             refine s_skip rfl rfl rfl ?_
             refine s_pickF rfl rfl (v := .sc (.bool false)) rfl rfl rfl rfl ?_
             refine m1 ?_
             refine s_skip rfl rfl rfl ?_
             refine s_pickF rfl rfl (v := .sc (.bool false)) rfl rfl rfl rfl ?_
             refine m2 ?_
             refine rt_nil ?_
             refine Exists.intro ⟨false, h⟩ ?_
             refine entX [] [] trivial trivial rfl rfl ?_
             exact ⟨(.free rfl), trivial⟩
           ·rintro ⟨j5_0, h⟩
            replace h : i_ClassOf_j5 j5_0 = some r0 := h
            unfold i_ClassOf_j5 at h
            show Tri _ _ _ (inv_i_ClassOf_5 j5_0)
            refine tri_cond rfl (fun c12 => ?_) (fun c12 => ?_)
            ·replace h := cond_t h c12
             refine tri_sr ?_
             refine s_mv (.inr rfl) (v := .sc (.int .i64 1)) rfl rfl rfl rfl ?_
             refine rt_nil ?_
             refine tri_ret ?_
             have e0 := (some1 h); subst e0
             exact endY [] [] (rvC (resTmp rfl) rvN) trivial trivial rfl rfl rfl rfl (.free rfl)
            ·replace h := cond_f h c12
             refine tri_skip ?_
             refine tri_sr ?_
             refine s_mv (.inr rfl) (v := .sc (.int .i64 0)) rfl rfl rfl rfl ?_
             refine rt_nil ?_
             refine tri_ret ?_
             have e0 := (some1 h); subst e0
             exact endY [] [] (rvC (resTmp rfl) rvN) trivial trivial rfl rfl rfl rfl (.free rfl)

/- impl.ServersIn -/

set_option maxRecDepth 4000 in
set_option maxHeartbeats 800000 in
theorem wi_ServersIn (p0 : MMsg) (p1 : ByteArray) (r0 : List Rec) (h : i_ServersIn p0 p1 = some r0) : Runs Tryd.prog 29 [.agg (mMsgV p0), .sc (.string p1)] [] (.own 39 6 (List.map recV r0)) [] := by
 unfold i_ServersIn at h
 refine runsR [.tmp 4] Tryd.func29 rfl rfl rfl rfl ?_
 rw [Tryd.ntmps29]
 refine tri_sr ?_
 refine s_box rfl rfl rfl rfl rfl rfl rfl ?_
 refine s_mv (.inr rfl) (v := .nils) rfl rfl rfl rfl ?_
 refine rt_nil ?_
 refine tri_sr ?_
 refine s_loadR rfl rfl rfl rfl ty50 rfl rfl rfl ?_
 refine m1 ?_
 refine bnd2_elim h fun x1 x2 q3 h => ?_
 refine s_callN (kb := []) (ns := []) (v := .tup [.sc (.string x1), .sc (.bool x2)]) rfl rfl cl28 (wi_DownIn p0 p1 x1 x2 q3) rfl (.cons (relAgg rfl) (.cons (.free rfl) .nil)) trivial memNil .nil memNil rfl trivial memNil rfl rfl rfl rfl rfl rfl ?_
 refine m1 ?_
 refine s_extract rfl rfl rfl rfl rfl rfl ?_
 refine s_extract rfl rfl rfl rfl rfl rfl ?_
 refine m2 ?_
 refine m2 ?_
 refine rt_nil ?_
 refine tri_seq ?_
 refine tri_sr ?_
 refine m1 ?_
 refine s_of (st_not rfl rfl) rfl rfl rfl rfl ?_
 refine rt_nil ?_
 refine tri_cond rfl (fun c4 => ?_) (fun c4 => ?_)
 ·replace h := cond_t h c4
  refine tri_sr ?_
  refine s_mv (.inr rfl) (v := .nils) rfl rfl rfl rfl ?_
  refine rt_nil ?_
  refine tri_ret ?_
  have e0 := (some1 h); subst e0
  exact endY (v' := .ref (2000, 0) 0 (([] : List Rec).length)) [((2000, 0), ⟨39, 6, List.map recV ([] : List Rec), false, true⟩, none)] [] (rvC (resTmp rfl) rvN) ⟨rfl, trivial⟩ trivial rfl rfl (by kernel_rfl) (by simp only [V.mat, V.mat1, V.mat0, matL, matT, List.length_map] <;> rfl) (.nilRef rfl)
 ·replace h := cond_f h c4
  refine tri_skip ?_
  refine tri_sr ?_
  refine s_fieldAddr rfl rfl fd50_9 rfl rfl rfl rfl ?_
  refine s_load rfl rfl rfl rfl ty24 rfl (.inr rfl) (by conv => lhs; whnf) rfl rfl rfl ?_
  refine m1 ?_
  refine bnd1_elim h fun x5 q6 h => ?_
  refine s_callN (kb := []) (ns := []) (v := .ref (18, 0) 0 x5.length) rfl rfl cl21 (wi_SetOf p0.au x1 2 x5 q6) rfl (.cons (.free rfl) (.cons (.free rfl) (.cons (.free rfl) .nil))) trivial memNil .nil memNil rfl ⟨(allSc_map recV_sc), trivial⟩ memNil rfl (by simp only [V.mat, V.mat1, V.mat0, matL, matT, List.length_map] <;> rfl) rfl rfl rfl rfl ?_
  refine m2 ?_
  refine rt_nil ?_
  refine tri_ret ?_
  have e0 := (some1 h); subst e0
  exact endY (v' := .ref (2000, 0) 0 x5.length) [((2000, 0), ⟨39, 6, List.map recV x5, false, true⟩, some (18, 0))] [] (rvC (resTmp rfl) rvN) ⟨⟨rfl, _, rfl, rfl, rfl, rfl, id, rowsCv_eq rfl (allFree_map recV_free), rowsZ_map recV_len⟩, trivial⟩ trivial rfl rfl (by kernel_rfl) (by simp only [V.mat, V.mat1, V.mat0, matL, matT, List.length_map] <;> rfl) (.ref rfl)

end Go.Abs.M
