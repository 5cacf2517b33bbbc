/- Walks of the functions that the law of FnZones reaches: what each of them computes, where its pure function does not fail. -/
import Derived.Test.YtbkmnbpgpklojaaDoorWalkFnZones1
set_option linter.unusedSimpArgs false
set_option linter.unusedVariables false
namespace Go.Abs.M
open Go Go.Abs Go.Proofs
theorem cl11 : callable Tryd.prog 11 = true := by kernel_rfl
theorem cl12 : callable Tryd.prog 12 = true := by kernel_rfl
theorem cl15 : callable Tryd.prog 15 = true := by kernel_rfl
theorem cl16 : callable Tryd.prog 16 = true := by kernel_rfl
theorem cl18 : callable Tryd.prog 18 = true := by kernel_rfl
theorem cl19 : callable Tryd.prog 19 = true := by kernel_rfl
theorem cl20 : callable Tryd.prog 20 = true := by kernel_rfl
theorem fd28_0 : fldTy Tryd.prog 28 0 = some (0, 0 + 1, false) := by kernel_rfl
theorem isb4 : isBool Tryd.prog 4 = true := by kernel_rfl
/- laws.FnZones -/
def inv_w_FnZones_7 (x4 : MZone) (v6_0 : Nat) (j7_0 : Bool) : St := mkT 151 [(3, .ptr (3, 0) 0 0), (9, .sc (.int .i64 (v6_0 : Int))), (144, .sc (.bool j7_0))] [((3, 0), some ⟨26, 2, [[.sc (.string x4.apex), .ref (15, 101) 0 x4.l.length]], false, true⟩), ((15, 101), some ⟨39, 6, List.map recV x4.l, false, true⟩)]
def inv_w_FnZones_6 (x4 : MZone) (v6_0 : Nat) : St := mkT 151 [(3, .ptr (3, 0) 0 0), (9, .sc (.int .i64 (v6_0 : Int)))] [((3, 0), some ⟨26, 2, [[.sc (.string x4.apex), .ref (15, 101) 0 x4.l.length]], false, true⟩), ((15, 101), some ⟨39, 6, List.map recV x4.l, false, true⟩)]
def inv_w_FnZones_5 (x4 : MZone) : St := mkT 151 [(3, .ptr (3, 0) 0 0)] [((3, 0), some ⟨26, 2, [[.sc (.string x4.apex), .ref (15, 101) 0 x4.l.length]], false, true⟩), ((15, 101), some ⟨39, 6, List.map recV x4.l, false, true⟩)]
def inv_w_FnZones_4 (x4 : MZone) (x10 : List ByteArray) (v3_0 : Nat) (j4_0 : Bool) : St := mkT 151 [(3, .ptr (3, 0) 0 0), (7, .ref (26, 0) 0 x10.length), (8, .sc (.int .i64 (v3_0 : Int))), (110, .sc (.bool j4_0))] [((3, 0), some ⟨26, 2, [[.sc (.string x4.apex), .ref (15, 101) 0 x4.l.length]], false, true⟩), ((15, 101), some ⟨39, 6, List.map recV x4.l, false, true⟩), ((26, 0), some ⟨9, 1, List.map strV x10, false, true⟩)]
def inv_w_FnZones_3 (x4 : MZone) (x10 : List ByteArray) (v3_0 : Nat) : St := mkT 151 [(3, .ptr (3, 0) 0 0), (7, .ref (26, 0) 0 x10.length), (8, .sc (.int .i64 (v3_0 : Int)))] [((3, 0), some ⟨26, 2, [[.sc (.string x4.apex), .ref (15, 101) 0 x4.l.length]], false, true⟩), ((15, 101), some ⟨39, 6, List.map recV x4.l, false, true⟩), ((26, 0), some ⟨9, 1, List.map strV x10, false, true⟩)]
def inv_w_FnZones_2 (x4 : MZone) : St := mkT 151 [(3, .ptr (3, 0) 0 0)] [((3, 0), some ⟨26, 2, [[.sc (.string x4.apex), .ref (15, 101) 0 x4.l.length]], false, true⟩), ((15, 101), some ⟨39, 6, List.map recV x4.l, false, true⟩)]
def inv_w_FnZones_1 (x4 : MZone) (x10 : List ByteArray) (j1_0 : Bool) : St := mkT 151 [(3, .ptr (3, 0) 0 0), (7, .ref (26, 0) 0 x10.length), (87, .sc (.bool j1_0))] [((3, 0), some ⟨26, 2, [[.sc (.string x4.apex), .ref (15, 101) 0 x4.l.length]], false, true⟩), ((15, 101), some ⟨39, 6, List.map recV x4.l, false, true⟩), ((26, 0), some ⟨9, 1, List.map strV x10, false, true⟩)]
def inv_w_FnZones_0 (x4 : MZone) (x5 : Quest) (x7 : ByteArray) (x8 : Bool) (x10 : List ByteArray) (j0_0 : Bool) : St := mkT 151 [(3, .ptr (3, 0) 0 0), (4, .ptr (4, 0) 0 0), (5, .sc (.string x7)), (6, .sc (.bool x8)), (7, .ref (26, 0) 0 x10.length), (66, .sc (.bool j0_0))] [((3, 0), some ⟨26, 2, [[.sc (.string x4.apex), .ref (15, 101) 0 x4.l.length]], false, true⟩), ((15, 101), some ⟨39, 6, List.map recV x4.l, false, true⟩), ((4, 0), some ⟨28, 2, [[.sc (.string x5.name), .sc (.int .i64 x5.ty)]], false, true⟩), ((26, 0), some ⟨9, 1, List.map strV x10, false, true⟩)]
set_option maxRecDepth 4000 in
set_option maxHeartbeats 800000 in
theorem ww_FnZones (p0 : List Int) (r0 : Bool) (h : w_FnZones p0 = some r0) : Runs Tryd.prog 3 [.lst 1 (List.map byteV p0)] [] (.sc (.bool r0)) [] := by
  unfold w_FnZones at h
  refine runsR [.tmp 2] Tryd.func3 rfl rfl rfl rfl ?_
  rw [Tryd.ntmps3]
  refine tri_seq ?_
  refine tri_region ?_
  refine s_mv (.inr rfl) (v := .sc (.bool false)) rfl rfl rfl rfl ?_
  refine rt_nil ?_
  refine tri_seq ?_
  refine tri_seq ?_
  refine tri_region ?_
  refine s_mv (.inl rfl) (by conv => lhs; whnf) rfl rfl rfl ?_
  refine bnd1_elim h fun x1 q2 h => ?_
  refine s_callN (kb := []) (ns := []) (v := .sc (.bool x1)) rfl rfl cl11 (ww_big p0 x1 q2) rfl (.cons (.free rfl) .nil) trivial memNil .nil memNil rfl trivial memNil rfl rfl rfl rfl rfl rfl ?_
  refine rt_nil ?_
  refine tri_cond rfl (fun c3 => ?_) (fun c3 => ?_)
  · replace h := cond_t h c3
    refine tri_seq ?_
    refine tri_region ?_
    refine s_mv (.inr rfl) (v := .sc (.bool true)) rfl rfl rfl rfl ?_
    refine rt_nil ?_
    refine tri_ret ?_
    have e0 := (some1 h); subst e0
    exact endY [] [] (rvC (resTmp rfl) rvN) trivial trivial rfl rfl rfl rfl (.free rfl)
  · replace h := cond_f h c3
    refine tri_skip ?_
    refine tri_seq ?_
    refine tri_region ?_
    refine s_mv (.inl rfl) (by conv => lhs; whnf) rfl rfl rfl ?_
    refine bnd2_elim h fun x4 x5 q6 h => ?_
    refine s_callN (kb := []) (ns := []) (v := .tup [.agg [.sc (.string x4.apex), .ref (15, 101) 0 x4.l.length], .agg (questV x5)]) rfl rfl cl12 (ws_DrawZone p0 x4 x5 q6) rfl (.cons (.free rfl) .nil) trivial memNil .nil memNil rfl ⟨(allSc_map recV_sc), trivial⟩ memNil rfl (by first | (simp only [V.mat, V.mat1, V.mat0, matL, matT, List.length_map]; done) | (simp only [V.mat, V.mat1, V.mat0, matL, matT, List.length_map]; rfl)) rfl rfl rfl rfl ?_
    refine s_mv (.inl rfl) (by conv => lhs; whnf) rfl rfl rfl ?_
    refine s_extract rfl rfl rfl rfl rfl rfl ?_
    refine s_extract rfl rfl rfl rfl rfl rfl ?_
    refine s_alloc rfl rfl rfl zc26 rfl rfl rfl rfl rfl ?_
    refine s_alloc rfl rfl rfl zc28 rfl rfl rfl rfl rfl ?_
    refine s_storeB rfl rfl rfl ty26 rfl rfl rfl rfl rfl ?_
    refine s_storeB rfl rfl rfl ty28 rfl rfl rfl rfl rfl ?_
    refine rt_nil ?_
    refine tri_seq ?_
    refine tri_region ?_
    refine s_loadR rfl rfl rfl rfl ty26 rfl rfl rfl ?_
    refine s_fieldAddr rfl rfl fd28_0 rfl rfl rfl rfl ?_
    refine s_load rfl rfl rfl rfl ty9 rfl (.inr rfl) (by conv => lhs; whnf) rfl rfl rfl ?_
    refine bnd2_elim h fun x7 x8 q9 h => ?_
    refine s_callN (kb := [(15, 101)]) (ns := []) (v := .tup [.sc (.string x7), .sc (.bool x8)]) rfl rfl cl13 (wi_CutOf x4 x5.name x7 x8 q9) rfl (.cons (relAggL (.cons (.free rfl) (.cons (lendL rfl (.head _) rfl recV_free recV_len) .nil))) (.cons (.free rfl) .nil)) trivial memNil .nil (fun _ _ => List.not_mem_nil) rfl trivial memNil rfl rfl rfl rfl rfl rfl ?_
    refine s_mv (.inl rfl) (by conv => lhs; whnf) rfl rfl rfl ?_
    refine s_extract rfl rfl rfl rfl rfl rfl ?_
    refine s_extract rfl rfl rfl rfl rfl rfl ?_
    refine s_mv (.inr rfl) (by conv => lhs; whnf) rfl rfl rfl ?_
    refine s_mv (.inr rfl) (by conv => lhs; whnf) rfl rfl rfl ?_
    refine rt_nil ?_
    refine tri_seq ?_
    refine tri_region ?_
    refine s_loadR rfl rfl rfl rfl ty26 rfl rfl rfl ?_
    refine bnd1_elim h fun x10 q11 h => ?_
    refine s_callN (kb := [(15, 101)]) (ns := []) (v := .ref (26, 0) 0 x10.length) rfl rfl cl14 (wi_CutsOf x4 x10 q11) rfl (.cons (relAggL (.cons (.free rfl) (.cons (lendL rfl (.head _) rfl recV_free recV_len) .nil))) .nil) trivial memNil .nil (fun _ _ => List.not_mem_nil) rfl ⟨(allSc_map strV_sc), trivial⟩ memNil rfl (by first | (simp only [V.mat, V.mat1, V.mat0, matL, matT, List.length_map]; done) | (simp only [V.mat, V.mat1, V.mat0, matL, matT, List.length_map]; rfl)) rfl rfl rfl rfl ?_
    refine s_mv (.inr rfl) (by conv => lhs; whnf) rfl rfl rfl ?_
    refine rt_nil ?_
    refine tri_seq ?_
    refine tri_cutI (ι := { p : Bool // w_FnZones_j0 x4 x5 x7 x8 x10 p = some r0 }) (fun p => inv_w_FnZones_0 x4 x5 x7 x8 x10 p.1) ?_ ?_
    · skip
      refine tri_draw mixed ?_
      refine s_loadR rfl rfl rfl rfl ty26 rfl rfl rfl ?_
      refine bnd1_elim h fun x12 q13 h => ?_
      refine s_callN (kb := [(15, 101)]) (ns := []) (v := .sc (.bool x12)) rfl rfl cl15 (wi_ZoneOk x4 x12 q13) rfl (.cons (relAggL (.cons (.free rfl) (.cons (lendL rfl (.head _) rfl recV_free recV_len) .nil))) .nil) trivial memNil .nil (fun _ _ => List.not_mem_nil) rfl trivial memNil rfl rfl rfl rfl rfl rfl ?_
      refine s_of (st_not rfl rfl) rfl rfl rfl rfl ?_
      refine s_mv (.inl rfl) (by conv => lhs; whnf) rfl rfl rfl ?_
      refine s_split (t := 30) rfl (fun b14 => ?_) (fun b14 => ?_)
      · replace h := cond_t h b14
        refine s_skip rfl rfl rfl ?_
        refine s_skip rfl rfl rfl ?_
        refine s_skip rfl rfl rfl ?_
        refine s_skip rfl rfl rfl ?_
        refine s_skip rfl rfl rfl ?_
        refine s_skip rfl rfl rfl ?_
        refine s_skip rfl rfl rfl ?_
        refine s_skip rfl rfl rfl ?_
        refine s_skip rfl rfl rfl ?_
        refine s_skip rfl rfl rfl ?_
        refine s_skip rfl rfl rfl ?_
        refine s_skip rfl rfl rfl ?_
        refine s_skip rfl rfl rfl ?_
        refine s_skip rfl rfl rfl ?_
        refine s_pickT rfl rfl (v := .sc (.bool true)) rfl rfl rfl rfl ?_
        refine s_mv (.inl rfl) (by conv => lhs; whnf) rfl rfl rfl ?_
        refine s_skip rfl rfl rfl ?_
        refine s_skip rfl rfl rfl ?_
        refine s_skip rfl rfl rfl ?_
        refine s_skip rfl rfl rfl ?_
        refine s_skip rfl rfl rfl ?_
        refine s_pickT rfl rfl (v := .sc (.bool true)) rfl rfl rfl rfl ?_
        refine s_mv (.inl rfl) (by conv => lhs; whnf) rfl rfl rfl ?_
        refine s_skip rfl rfl rfl ?_
        refine s_skip rfl rfl rfl ?_
        refine s_skip rfl rfl rfl ?_
        refine s_skip rfl rfl rfl ?_
        refine s_skip rfl rfl rfl ?_
        refine s_pickT rfl rfl (v := .sc (.bool true)) rfl rfl rfl rfl ?_
        refine s_mv (.inl rfl) (by conv => lhs; whnf) rfl rfl rfl ?_
        refine s_skip rfl rfl rfl ?_
        refine s_skip rfl rfl rfl ?_
        refine s_skip rfl rfl rfl ?_
        refine s_skip rfl rfl rfl ?_
        refine s_skip rfl rfl rfl ?_
        refine s_pickT rfl rfl (v := .sc (.bool true)) rfl rfl rfl rfl ?_
        refine rt_nil ⟨drawFast (by kernel_rfl), ?_⟩
        refine Exists.intro ⟨true, h⟩ ?_
        refine entX [((3, 0), ⟨26, 2, [[.sc (.string x4.apex), .ref (15, 101) 0 x4.l.length]], false, true⟩, some (3, 0)), ((15, 101), ⟨39, 6, List.map recV x4.l, false, true⟩, some (15, 101)), ((4, 0), ⟨28, 2, [[.sc (.string x5.name), .sc (.int .i64 x5.ty)]], false, true⟩, some (4, 0)), ((26, 0), ⟨9, 1, List.map strV x10, false, true⟩, some (26, 0))] [] ⟨⟨rfl, _, rfl, rfl, rfl, rfl, id, rowsCv_one (.cons (.free rfl) (.cons (.ref rfl) .nil)), rowsZ_one rfl⟩, ⟨rfl, _, rfl, rfl, rfl, rfl, id, rowsCv_eq rfl (allFree_map recV_free), rowsZ_map recV_len⟩, ⟨rfl, _, rfl, rfl, rfl, rfl, id, rowsCv_one (.cons (.free rfl) (.cons (.free rfl) .nil)), rowsZ_one rfl⟩, ⟨rfl, _, rfl, rfl, rfl, rfl, id, rowsCv_eq rfl (allFree_map strV_free), rowsZ_map strV_len⟩, trivial⟩ trivial rfl rfl ?_
        exact ⟨(.ptr rfl), (.ptr rfl), (.free rfl), (.free rfl), (.ref rfl), (.free rfl), trivial⟩
      · replace h := cond_f h b14
        refine s_loadR rfl rfl rfl rfl ty26 rfl rfl rfl ?_
        refine s_fieldAddr rfl rfl fd28_0 rfl rfl rfl rfl ?_
        refine s_load rfl rfl rfl rfl ty9 rfl (.inr rfl) (by conv => lhs; whnf) rfl rfl rfl ?_
        refine bnd1_elim h fun x15 q16 h => ?_
        refine s_callN (kb := [(15, 101)]) (ns := []) (v := .sc (.bool x15)) rfl rfl cl16 (wi_InZone x4 x5.name x15 q16) rfl (.cons (relAggL (.cons (.free rfl) (.cons (lendL rfl (.head _) rfl recV_free recV_len) .nil))) (.cons (.free rfl) .nil)) trivial memNil .nil (fun _ _ => List.not_mem_nil) rfl trivial memNil rfl rfl rfl rfl rfl rfl ?_
        refine s_fieldAddr rfl rfl fd28_0 rfl rfl rfl rfl ?_
        refine s_load rfl rfl rfl rfl ty9 rfl (.inr rfl) (by conv => lhs; whnf) rfl rfl rfl ?_
        refine s_fieldAddr rfl rfl fd26_0 rfl rfl rfl rfl ?_
        refine s_load rfl rfl rfl rfl ty9 rfl (.inr rfl) (by conv => lhs; whnf) rfl rfl rfl ?_
        refine bnd1_elim h fun x17 q18 h => ?_
        refine s_callN (kb := []) (ns := []) (v := .sc (.bool x17)) rfl rfl cl17 (wi_Under x5.name x4.apex x17 q18) rfl (.cons (.free rfl) (.cons (.free rfl) .nil)) trivial memNil .nil memNil rfl trivial memNil rfl rfl rfl rfl rfl rfl ?_
        refine s_mv (.inl rfl) (by conv => lhs; whnf) rfl rfl rfl ?_
        refine s_split (t := 40) rfl (fun b19 => ?_) (fun b19 => ?_)
        · replace h := cond_t h b19
          refine s_mv (.inl rfl) (by conv => lhs; whnf) rfl rfl rfl ?_
          refine s_of (st_not rfl rfl) rfl rfl rfl rfl ?_
          refine s_pickT rfl rfl (by conv => lhs; whnf) rfl rfl rfl ?_
          refine s_of (st_neB isb4 rfl rfl rfl) rfl rfl rfl rfl ?_
          refine s_pickF rfl rfl (by conv => lhs; whnf) rfl rfl rfl ?_
          refine s_mv (.inl rfl) (by conv => lhs; whnf) rfl rfl rfl ?_
          refine s_split (t := 46) rfl (fun b20 => ?_) (fun b20 => ?_)
          · replace h := cond_t h b20
            refine s_skip rfl rfl rfl ?_
            refine s_skip rfl rfl rfl ?_
            refine s_skip rfl rfl rfl ?_
            refine s_skip rfl rfl rfl ?_
            refine s_skip rfl rfl rfl ?_
            refine s_pickT rfl rfl (v := .sc (.bool true)) rfl rfl rfl rfl ?_
            refine s_mv (.inl rfl) (by conv => lhs; whnf) rfl rfl rfl ?_
            refine s_skip rfl rfl rfl ?_
            refine s_skip rfl rfl rfl ?_
            refine s_skip rfl rfl rfl ?_
            refine s_skip rfl rfl rfl ?_
            refine s_skip rfl rfl rfl ?_
            refine s_pickT rfl rfl (v := .sc (.bool true)) rfl rfl rfl rfl ?_
            refine s_mv (.inl rfl) (by conv => lhs; whnf) rfl rfl rfl ?_
            refine s_skip rfl rfl rfl ?_
            refine s_skip rfl rfl rfl ?_
            refine s_skip rfl rfl rfl ?_
            refine s_skip rfl rfl rfl ?_
            refine s_skip rfl rfl rfl ?_
            refine s_pickT rfl rfl (v := .sc (.bool true)) rfl rfl rfl rfl ?_
            refine rt_nil ⟨drawFast (by kernel_rfl), ?_⟩
            refine Exists.intro ⟨true, h⟩ ?_
            refine entX [((3, 0), ⟨26, 2, [[.sc (.string x4.apex), .ref (15, 101) 0 x4.l.length]], false, true⟩, some (3, 0)), ((15, 101), ⟨39, 6, List.map recV x4.l, false, true⟩, some (15, 101)), ((4, 0), ⟨28, 2, [[.sc (.string x5.name), .sc (.int .i64 x5.ty)]], false, true⟩, some (4, 0)), ((26, 0), ⟨9, 1, List.map strV x10, false, true⟩, some (26, 0))] [] ⟨⟨rfl, _, rfl, rfl, rfl, rfl, id, rowsCv_one (.cons (.free rfl) (.cons (.ref rfl) .nil)), rowsZ_one rfl⟩, ⟨rfl, _, rfl, rfl, rfl, rfl, id, rowsCv_eq rfl (allFree_map recV_free), rowsZ_map recV_len⟩, ⟨rfl, _, rfl, rfl, rfl, rfl, id, rowsCv_one (.cons (.free rfl) (.cons (.free rfl) .nil)), rowsZ_one rfl⟩, ⟨rfl, _, rfl, rfl, rfl, rfl, id, rowsCv_eq rfl (allFree_map strV_free), rowsZ_map strV_len⟩, trivial⟩ trivial rfl rfl ?_
            exact ⟨(.ptr rfl), (.ptr rfl), (.free rfl), (.free rfl), (.ref rfl), (.free rfl), trivial⟩
          · replace h := cond_f h b20
            refine s_loadR rfl rfl rfl rfl ty26 rfl rfl rfl ?_
            refine s_fieldAddr rfl rfl fd26_0 rfl rfl rfl rfl ?_
            refine s_load rfl rfl rfl rfl ty9 rfl (.inr rfl) (by conv => lhs; whnf) rfl rfl rfl ?_
            refine bnd1_elim h fun x21 q22 h => ?_
            refine s_callN (kb := [(15, 101)]) (ns := []) (v := .sc (.bool x21)) rfl rfl cl16 (wi_InZone x4 x4.apex x21 q22) rfl (.cons (relAggL (.cons (.free rfl) (.cons (lendL rfl (.head _) rfl recV_free recV_len) .nil))) (.cons (.free rfl) .nil)) trivial memNil .nil (fun _ _ => List.not_mem_nil) rfl trivial memNil rfl rfl rfl rfl rfl rfl ?_
            refine s_of (st_not rfl rfl) rfl rfl rfl rfl ?_
            refine s_pickF rfl rfl (by conv => lhs; whnf) rfl rfl rfl ?_
            refine s_mv (.inl rfl) (by conv => lhs; whnf) rfl rfl rfl ?_
            refine s_split (t := 53) rfl (fun b23 => ?_) (fun b23 => ?_)
            · replace h := cond_t h b23
              refine s_skip rfl rfl rfl ?_
              refine s_skip rfl rfl rfl ?_
              refine s_skip rfl rfl rfl ?_
              refine s_skip rfl rfl rfl ?_
              refine s_skip rfl rfl rfl ?_
              refine s_pickT rfl rfl (v := .sc (.bool true)) rfl rfl rfl rfl ?_
              refine s_mv (.inl rfl) (by conv => lhs; whnf) rfl rfl rfl ?_
              refine s_skip rfl rfl rfl ?_
              refine s_skip rfl rfl rfl ?_
              refine s_skip rfl rfl rfl ?_
              refine s_skip rfl rfl rfl ?_
              refine s_skip rfl rfl rfl ?_
              refine s_pickT rfl rfl (v := .sc (.bool true)) rfl rfl rfl rfl ?_
              refine rt_nil ⟨drawFast (by kernel_rfl), ?_⟩
              refine Exists.intro ⟨true, h⟩ ?_
              refine entX [((3, 0), ⟨26, 2, [[.sc (.string x4.apex), .ref (15, 101) 0 x4.l.length]], false, true⟩, some (3, 0)), ((15, 101), ⟨39, 6, List.map recV x4.l, false, true⟩, some (15, 101)), ((4, 0), ⟨28, 2, [[.sc (.string x5.name), .sc (.int .i64 x5.ty)]], false, true⟩, some (4, 0)), ((26, 0), ⟨9, 1, List.map strV x10, false, true⟩, some (26, 0))] [] ⟨⟨rfl, _, rfl, rfl, rfl, rfl, id, rowsCv_one (.cons (.free rfl) (.cons (.ref rfl) .nil)), rowsZ_one rfl⟩, ⟨rfl, _, rfl, rfl, rfl, rfl, id, rowsCv_eq rfl (allFree_map recV_free), rowsZ_map recV_len⟩, ⟨rfl, _, rfl, rfl, rfl, rfl, id, rowsCv_one (.cons (.free rfl) (.cons (.free rfl) .nil)), rowsZ_one rfl⟩, ⟨rfl, _, rfl, rfl, rfl, rfl, id, rowsCv_eq rfl (allFree_map strV_free), rowsZ_map strV_len⟩, trivial⟩ trivial rfl rfl ?_
              exact ⟨(.ptr rfl), (.ptr rfl), (.free rfl), (.free rfl), (.ref rfl), (.free rfl), trivial⟩
            · replace h := cond_f h b23
              refine s_loadR rfl rfl rfl rfl ty26 rfl rfl rfl ?_
              refine s_fieldAddr rfl rfl fd26_0 rfl rfl rfl rfl ?_
              refine s_load rfl rfl rfl rfl ty9 rfl (.inr rfl) (by conv => lhs; whnf) rfl rfl rfl ?_
              refine bnd1_elim h fun x24 q25 h => ?_
              refine s_callN (kb := [(15, 101)]) (ns := []) (v := .sc (.bool x24)) rfl rfl cl18 (wi_Exists x4 x4.apex x24 q25) rfl (.cons (relAggL (.cons (.free rfl) (.cons (lendL rfl (.head _) rfl recV_free recV_len) .nil))) (.cons (.free rfl) .nil)) trivial memNil .nil (fun _ _ => List.not_mem_nil) rfl trivial memNil rfl rfl rfl rfl rfl rfl ?_
              refine s_of (st_not rfl rfl) rfl rfl rfl rfl ?_
              refine s_pickF rfl rfl (by conv => lhs; whnf) rfl rfl rfl ?_
              refine s_mv (.inl rfl) (by conv => lhs; whnf) rfl rfl rfl ?_
              refine s_split (t := 60) rfl (fun b26 => ?_) (fun b26 => ?_)
              · replace h := cond_t h b26
                refine s_skip rfl rfl rfl ?_
                refine s_skip rfl rfl rfl ?_
                refine s_skip rfl rfl rfl ?_
                refine s_skip rfl rfl rfl ?_
                refine s_skip rfl rfl rfl ?_
                refine s_pickT rfl rfl (v := .sc (.bool true)) rfl rfl rfl rfl ?_
                refine rt_nil ⟨drawFast (by kernel_rfl), ?_⟩
                refine Exists.intro ⟨true, h⟩ ?_
                refine entX [((3, 0), ⟨26, 2, [[.sc (.string x4.apex), .ref (15, 101) 0 x4.l.length]], false, true⟩, some (3, 0)), ((15, 101), ⟨39, 6, List.map recV x4.l, false, true⟩, some (15, 101)), ((4, 0), ⟨28, 2, [[.sc (.string x5.name), .sc (.int .i64 x5.ty)]], false, true⟩, some (4, 0)), ((26, 0), ⟨9, 1, List.map strV x10, false, true⟩, some (26, 0))] [] ⟨⟨rfl, _, rfl, rfl, rfl, rfl, id, rowsCv_one (.cons (.free rfl) (.cons (.ref rfl) .nil)), rowsZ_one rfl⟩, ⟨rfl, _, rfl, rfl, rfl, rfl, id, rowsCv_eq rfl (allFree_map recV_free), rowsZ_map recV_len⟩, ⟨rfl, _, rfl, rfl, rfl, rfl, id, rowsCv_one (.cons (.free rfl) (.cons (.free rfl) .nil)), rowsZ_one rfl⟩, ⟨rfl, _, rfl, rfl, rfl, rfl, id, rowsCv_eq rfl (allFree_map strV_free), rowsZ_map strV_len⟩, trivial⟩ trivial rfl rfl ?_
                exact ⟨(.ptr rfl), (.ptr rfl), (.free rfl), (.free rfl), (.ref rfl), (.free rfl), trivial⟩
              · replace h := cond_f h b26
                refine s_loadR rfl rfl rfl rfl ty26 rfl rfl rfl ?_
                refine bnd1_elim h fun x27 q28 h => ?_
                refine s_callN (kb := [(15, 101)]) (ns := []) (v := .agg (recV x27)) rfl rfl cl19 (wi_StartOf x4 x27 q28) rfl (.cons (relAggL (.cons (.free rfl) (.cons (lendL rfl (.head _) rfl recV_free recV_len) .nil))) .nil) trivial memNil .nil (fun _ _ => List.not_mem_nil) rfl trivial memNil rfl rfl rfl rfl rfl rfl ?_
                refine s_loadR rfl rfl rfl rfl ty26 rfl rfl rfl ?_
                refine bnd1_elim h fun x29 q30 h => ?_
                refine s_callN (kb := [(15, 101)]) (ns := []) (v := .agg (recV x29)) rfl rfl cl20 (ws_StartOf x4 x29 q30) rfl (.cons (relAggL (.cons (.free rfl) (.cons (lendL rfl (.head _) rfl recV_free recV_len) .nil))) .nil) trivial memNil .nil (fun _ _ => List.not_mem_nil) rfl trivial memNil rfl rfl rfl rfl rfl rfl ?_
                refine s_neStruct (r' := (decide (x27.name = x29.name) && (decide (x27.ty = x29.ty) && (decide (x27.ttl = x29.ttl) && (decide (x27.n = x29.n) && (decide (x27.host = x29.host) && (decide (x27.text = x29.text) && true))))))) rfl rfl rfl fk39 rfl rfl rfl rfl rfl ?_
                refine s_pickF rfl rfl (by conv => lhs; whnf) rfl rfl rfl ?_
                refine rt_nil ⟨drawFast (by kernel_rfl), ?_⟩
                refine Exists.intro ⟨!(decide (x27.name = x29.name) && (decide (x27.ty = x29.ty) && (decide (x27.ttl = x29.ttl) && (decide (x27.n = x29.n) && (decide (x27.host = x29.host) && (decide (x27.text = x29.text) && true)))))), h⟩ ?_
                refine entX [((3, 0), ⟨26, 2, [[.sc (.string x4.apex), .ref (15, 101) 0 x4.l.length]], false, true⟩, some (3, 0)), ((15, 101), ⟨39, 6, List.map recV x4.l, false, true⟩, some (15, 101)), ((4, 0), ⟨28, 2, [[.sc (.string x5.name), .sc (.int .i64 x5.ty)]], false, true⟩, some (4, 0)), ((26, 0), ⟨9, 1, List.map strV x10, false, true⟩, some (26, 0))] [] ⟨⟨rfl, _, rfl, rfl, rfl, rfl, id, rowsCv_one (.cons (.free rfl) (.cons (.ref rfl) .nil)), rowsZ_one rfl⟩, ⟨rfl, _, rfl, rfl, rfl, rfl, id, rowsCv_eq rfl (allFree_map recV_free), rowsZ_map recV_len⟩, ⟨rfl, _, rfl, rfl, rfl, rfl, id, rowsCv_one (.cons (.free rfl) (.cons (.free rfl) .nil)), rowsZ_one rfl⟩, ⟨rfl, _, rfl, rfl, rfl, rfl, id, rowsCv_eq rfl (allFree_map strV_free), rowsZ_map strV_len⟩, trivial⟩ trivial rfl rfl ?_
                exact ⟨(.ptr rfl), (.ptr rfl), (.free rfl), (.free rfl), (.ref rfl), (.free rfl), trivial⟩
        · replace h := cond_f h b19
          refine s_skip rfl rfl rfl ?_
          refine s_skip rfl rfl rfl ?_
          refine s_pickF rfl rfl (v := .sc (.bool false)) rfl rfl rfl rfl ?_
          refine s_of (st_neB isb4 rfl rfl rfl) rfl rfl rfl rfl ?_
          refine s_pickF rfl rfl (by conv => lhs; whnf) rfl rfl rfl ?_
          refine s_mv (.inl rfl) (by conv => lhs; whnf) rfl rfl rfl ?_
          refine s_split (t := 46) rfl (fun b31 => ?_) (fun b31 => ?_)
          · replace h := cond_t h b31
            refine s_skip rfl rfl rfl ?_
            refine s_skip rfl rfl rfl ?_
            refine s_skip rfl rfl rfl ?_
            refine s_skip rfl rfl rfl ?_
            refine s_skip rfl rfl rfl ?_
            refine s_pickT rfl rfl (v := .sc (.bool true)) rfl rfl rfl rfl ?_
            refine s_mv (.inl rfl) (by conv => lhs; whnf) rfl rfl rfl ?_
            refine s_skip rfl rfl rfl ?_
            refine s_skip rfl rfl rfl ?_
            refine s_skip rfl rfl rfl ?_
            refine s_skip rfl rfl rfl ?_
            refine s_skip rfl rfl rfl ?_
            refine s_pickT rfl rfl (v := .sc (.bool true)) rfl rfl rfl rfl ?_
            refine s_mv (.inl rfl) (by conv => lhs; whnf) rfl rfl rfl ?_
            refine s_skip rfl rfl rfl ?_
            refine s_skip rfl rfl rfl ?_
            refine s_skip rfl rfl rfl ?_
            refine s_skip rfl rfl rfl ?_
            refine s_skip rfl rfl rfl ?_
            refine s_pickT rfl rfl (v := .sc (.bool true)) rfl rfl rfl rfl ?_
            refine rt_nil ⟨drawFast (by kernel_rfl), ?_⟩
            refine Exists.intro ⟨true, h⟩ ?_
            refine entX [((3, 0), ⟨26, 2, [[.sc (.string x4.apex), .ref (15, 101) 0 x4.l.length]], false, true⟩, some (3, 0)), ((15, 101), ⟨39, 6, List.map recV x4.l, false, true⟩, some (15, 101)), ((4, 0), ⟨28, 2, [[.sc (.string x5.name), .sc (.int .i64 x5.ty)]], false, true⟩, some (4, 0)), ((26, 0), ⟨9, 1, List.map strV x10, false, true⟩, some (26, 0))] [] ⟨⟨rfl, _, rfl, rfl, rfl, rfl, id, rowsCv_one (.cons (.free rfl) (.cons (.ref rfl) .nil)), rowsZ_one rfl⟩, ⟨rfl, _, rfl, rfl, rfl, rfl, id, rowsCv_eq rfl (allFree_map recV_free), rowsZ_map recV_len⟩, ⟨rfl, _, rfl, rfl, rfl, rfl, id, rowsCv_one (.cons (.free rfl) (.cons (.free rfl) .nil)), rowsZ_one rfl⟩, ⟨rfl, _, rfl, rfl, rfl, rfl, id, rowsCv_eq rfl (allFree_map strV_free), rowsZ_map strV_len⟩, trivial⟩ trivial rfl rfl ?_
            exact ⟨(.ptr rfl), (.ptr rfl), (.free rfl), (.free rfl), (.ref rfl), (.free rfl), trivial⟩
          · replace h := cond_f h b31
            refine s_loadR rfl rfl rfl rfl ty26 rfl rfl rfl ?_
            refine s_fieldAddr rfl rfl fd26_0 rfl rfl rfl rfl ?_
            refine s_load rfl rfl rfl rfl ty9 rfl (.inr rfl) (by conv => lhs; whnf) rfl rfl rfl ?_
            refine bnd1_elim h fun x32 q33 h => ?_
            refine s_callN (kb := [(15, 101)]) (ns := []) (v := .sc (.bool x32)) rfl rfl cl16 (wi_InZone x4 x4.apex x32 q33) rfl (.cons (relAggL (.cons (.free rfl) (.cons (lendL rfl (.head _) rfl recV_free recV_len) .nil))) (.cons (.free rfl) .nil)) trivial memNil .nil (fun _ _ => List.not_mem_nil) rfl trivial memNil rfl rfl rfl rfl rfl rfl ?_
            refine s_of (st_not rfl rfl) rfl rfl rfl rfl ?_
            refine s_pickF rfl rfl (by conv => lhs; whnf) rfl rfl rfl ?_
            refine s_mv (.inl rfl) (by conv => lhs; whnf) rfl rfl rfl ?_
            refine s_split (t := 53) rfl (fun b34 => ?_) (fun b34 => ?_)
            · replace h := cond_t h b34
              refine s_skip rfl rfl rfl ?_
              refine s_skip rfl rfl rfl ?_
              refine s_skip rfl rfl rfl ?_
              refine s_skip rfl rfl rfl ?_
              refine s_skip rfl rfl rfl ?_
              refine s_pickT rfl rfl (v := .sc (.bool true)) rfl rfl rfl rfl ?_
              refine s_mv (.inl rfl) (by conv => lhs; whnf) rfl rfl rfl ?_
              refine s_skip rfl rfl rfl ?_
              refine s_skip rfl rfl rfl ?_
              refine s_skip rfl rfl rfl ?_
              refine s_skip rfl rfl rfl ?_
              refine s_skip rfl rfl rfl ?_
              refine s_pickT rfl rfl (v := .sc (.bool true)) rfl rfl rfl rfl ?_
              refine rt_nil ⟨drawFast (by kernel_rfl), ?_⟩
              refine Exists.intro ⟨true, h⟩ ?_
              refine entX [((3, 0), ⟨26, 2, [[.sc (.string x4.apex), .ref (15, 101) 0 x4.l.length]], false, true⟩, some (3, 0)), ((15, 101), ⟨39, 6, List.map recV x4.l, false, true⟩, some (15, 101)), ((4, 0), ⟨28, 2, [[.sc (.string x5.name), .sc (.int .i64 x5.ty)]], false, true⟩, some (4, 0)), ((26, 0), ⟨9, 1, List.map strV x10, false, true⟩, some (26, 0))] [] ⟨⟨rfl, _, rfl, rfl, rfl, rfl, id, rowsCv_one (.cons (.free rfl) (.cons (.ref rfl) .nil)), rowsZ_one rfl⟩, ⟨rfl, _, rfl, rfl, rfl, rfl, id, rowsCv_eq rfl (allFree_map recV_free), rowsZ_map recV_len⟩, ⟨rfl, _, rfl, rfl, rfl, rfl, id, rowsCv_one (.cons (.free rfl) (.cons (.free rfl) .nil)), rowsZ_one rfl⟩, ⟨rfl, _, rfl, rfl, rfl, rfl, id, rowsCv_eq rfl (allFree_map strV_free), rowsZ_map strV_len⟩, trivial⟩ trivial rfl rfl ?_
              exact ⟨(.ptr rfl), (.ptr rfl), (.free rfl), (.free rfl), (.ref rfl), (.free rfl), trivial⟩
            · replace h := cond_f h b34
              refine s_loadR rfl rfl rfl rfl ty26 rfl rfl rfl ?_
              refine s_fieldAddr rfl rfl fd26_0 rfl rfl rfl rfl ?_
              refine s_load rfl rfl rfl rfl ty9 rfl (.inr rfl) (by conv => lhs; whnf) rfl rfl rfl ?_
              refine bnd1_elim h fun x35 q36 h => ?_
              refine s_callN (kb := [(15, 101)]) (ns := []) (v := .sc (.bool x35)) rfl rfl cl18 (wi_Exists x4 x4.apex x35 q36) rfl (.cons (relAggL (.cons (.free rfl) (.cons (lendL rfl (.head _) rfl recV_free recV_len) .nil))) (.cons (.free rfl) .nil)) trivial memNil .nil (fun _ _ => List.not_mem_nil) rfl trivial memNil rfl rfl rfl rfl rfl rfl ?_
              refine s_of (st_not rfl rfl) rfl rfl rfl rfl ?_
              refine s_pickF rfl rfl (by conv => lhs; whnf) rfl rfl rfl ?_
              refine s_mv (.inl rfl) (by conv => lhs; whnf) rfl rfl rfl ?_
              refine s_split (t := 60) rfl (fun b37 => ?_) (fun b37 => ?_)
              · replace h := cond_t h b37
                refine s_skip rfl rfl rfl ?_
                refine s_skip rfl rfl rfl ?_
                refine s_skip rfl rfl rfl ?_
                refine s_skip rfl rfl rfl ?_
                refine s_skip rfl rfl rfl ?_
                refine s_pickT rfl rfl (v := .sc (.bool true)) rfl rfl rfl rfl ?_
                refine rt_nil ⟨drawFast (by kernel_rfl), ?_⟩
                refine Exists.intro ⟨true, h⟩ ?_
                refine entX [((3, 0), ⟨26, 2, [[.sc (.string x4.apex), .ref (15, 101) 0 x4.l.length]], false, true⟩, some (3, 0)), ((15, 101), ⟨39, 6, List.map recV x4.l, false, true⟩, some (15, 101)), ((4, 0), ⟨28, 2, [[.sc (.string x5.name), .sc (.int .i64 x5.ty)]], false, true⟩, some (4, 0)), ((26, 0), ⟨9, 1, List.map strV x10, false, true⟩, some (26, 0))] [] ⟨⟨rfl, _, rfl, rfl, rfl, rfl, id, rowsCv_one (.cons (.free rfl) (.cons (.ref rfl) .nil)), rowsZ_one rfl⟩, ⟨rfl, _, rfl, rfl, rfl, rfl, id, rowsCv_eq rfl (allFree_map recV_free), rowsZ_map recV_len⟩, ⟨rfl, _, rfl, rfl, rfl, rfl, id, rowsCv_one (.cons (.free rfl) (.cons (.free rfl) .nil)), rowsZ_one rfl⟩, ⟨rfl, _, rfl, rfl, rfl, rfl, id, rowsCv_eq rfl (allFree_map strV_free), rowsZ_map strV_len⟩, trivial⟩ trivial rfl rfl ?_
                exact ⟨(.ptr rfl), (.ptr rfl), (.free rfl), (.free rfl), (.ref rfl), (.free rfl), trivial⟩
              · replace h := cond_f h b37
                refine s_loadR rfl rfl rfl rfl ty26 rfl rfl rfl ?_
                refine bnd1_elim h fun x38 q39 h => ?_
                refine s_callN (kb := [(15, 101)]) (ns := []) (v := .agg (recV x38)) rfl rfl cl19 (wi_StartOf x4 x38 q39) rfl (.cons (relAggL (.cons (.free rfl) (.cons (lendL rfl (.head _) rfl recV_free recV_len) .nil))) .nil) trivial memNil .nil (fun _ _ => List.not_mem_nil) rfl trivial memNil rfl rfl rfl rfl rfl rfl ?_
                refine s_loadR rfl rfl rfl rfl ty26 rfl rfl rfl ?_
                refine bnd1_elim h fun x40 q41 h => ?_
                refine s_callN (kb := [(15, 101)]) (ns := []) (v := .agg (recV x40)) rfl rfl cl20 (ws_StartOf x4 x40 q41) rfl (.cons (relAggL (.cons (.free rfl) (.cons (lendL rfl (.head _) rfl recV_free recV_len) .nil))) .nil) trivial memNil .nil (fun _ _ => List.not_mem_nil) rfl trivial memNil rfl rfl rfl rfl rfl rfl ?_
                refine s_neStruct (r' := (decide (x38.name = x40.name) && (decide (x38.ty = x40.ty) && (decide (x38.ttl = x40.ttl) && (decide (x38.n = x40.n) && (decide (x38.host = x40.host) && (decide (x38.text = x40.text) && true))))))) rfl rfl rfl fk39 rfl rfl rfl rfl rfl ?_
                refine s_pickF rfl rfl (by conv => lhs; whnf) rfl rfl rfl ?_
                refine rt_nil ⟨drawFast (by kernel_rfl), ?_⟩
                refine Exists.intro ⟨!(decide (x38.name = x40.name) && (decide (x38.ty = x40.ty) && (decide (x38.ttl = x40.ttl) && (decide (x38.n = x40.n) && (decide (x38.host = x40.host) && (decide (x38.text = x40.text) && true)))))), h⟩ ?_
                refine entX [((3, 0), ⟨26, 2, [[.sc (.string x4.apex), .ref (15, 101) 0 x4.l.length]], false, true⟩, some (3, 0)), ((15, 101), ⟨39, 6, List.map recV x4.l, false, true⟩, some (15, 101)), ((4, 0), ⟨28, 2, [[.sc (.string x5.name), .sc (.int .i64 x5.ty)]], false, true⟩, some (4, 0)), ((26, 0), ⟨9, 1, List.map strV x10, false, true⟩, some (26, 0))] [] ⟨⟨rfl, _, rfl, rfl, rfl, rfl, id, rowsCv_one (.cons (.free rfl) (.cons (.ref rfl) .nil)), rowsZ_one rfl⟩, ⟨rfl, _, rfl, rfl, rfl, rfl, id, rowsCv_eq rfl (allFree_map recV_free), rowsZ_map recV_len⟩, ⟨rfl, _, rfl, rfl, rfl, rfl, id, rowsCv_one (.cons (.free rfl) (.cons (.free rfl) .nil)), rowsZ_one rfl⟩, ⟨rfl, _, rfl, rfl, rfl, rfl, id, rowsCv_eq rfl (allFree_map strV_free), rowsZ_map strV_len⟩, trivial⟩ trivial rfl rfl ?_
                exact ⟨(.ptr rfl), (.ptr rfl), (.free rfl), (.free rfl), (.ref rfl), (.free rfl), trivial⟩
    · rintro ⟨j0_0, h⟩
      replace h : w_FnZones_j0 x4 x5 x7 x8 x10 j0_0 = some r0 := h
      unfold w_FnZones_j0 at h
      show Tri _ _ _ (inv_w_FnZones_0 x4 x5 x7 x8 x10 j0_0)
      refine tri_cond rfl (fun c12 => ?_) (fun c12 => ?_)
      · replace h := cond_t h c12
        refine tri_seq ?_
        refine tri_region ?_
        refine s_mv (.inr rfl) (v := .sc (.bool false)) rfl rfl rfl rfl ?_
        refine rt_nil ?_
        refine tri_ret ?_
        have e0 := (some1 h); subst e0
        exact endY [] [] (rvC (resTmp rfl) rvN) trivial trivial rfl rfl rfl rfl (.free rfl)
      · replace h := cond_f h c12
        refine tri_skip ?_
        refine tri_seq ?_
        refine tri_cutI (ι := { p : Bool // w_FnZones_j1 x4 x10 p = some r0 }) (fun p => inv_w_FnZones_1 x4 x10 p.1) ?_ ?_
        · skip
          refine tri_region ?_
          refine s_mv (.inl rfl) (by conv => lhs; whnf) rfl rfl rfl ?_
          refine s_mv (.inl rfl) (by conv => lhs; whnf) rfl rfl rfl ?_
          refine s_split (t := 68) rfl (fun b13 => ?_) (fun b13 => ?_)
          · replace h := cond_t h b13
            refine s_fieldAddr rfl rfl fd28_0 rfl rfl rfl rfl ?_
            refine s_load rfl rfl rfl rfl ty9 rfl (.inr rfl) (by conv => lhs; whnf) rfl rfl rfl ?_
            refine s_mv (.inl rfl) (by conv => lhs; whnf) rfl rfl rfl ?_
            refine bnd1_elim h fun x14 q15 h => ?_
            refine s_callN (kb := []) (ns := []) (v := .sc (.bool x14)) rfl rfl cl17 (wi_Under x5.name x7 x14 q15) rfl (.cons (.free rfl) (.cons (.free rfl) .nil)) trivial memNil .nil memNil rfl trivial memNil rfl rfl rfl rfl rfl rfl ?_
            refine s_of (st_not rfl rfl) rfl rfl rfl rfl ?_
            refine s_mv (.inl rfl) (by conv => lhs; whnf) rfl rfl rfl ?_
            refine s_split (t := 74) rfl (fun b16 => ?_) (fun b16 => ?_)
            · replace h := cond_t h b16
              refine s_skip rfl rfl rfl ?_
              refine s_skip rfl rfl rfl ?_
              refine s_skip rfl rfl rfl ?_
              refine s_skip rfl rfl rfl ?_
              refine s_pickT rfl rfl (v := .sc (.bool true)) rfl rfl rfl rfl ?_
              refine s_mv (.inl rfl) (by conv => lhs; whnf) rfl rfl rfl ?_
              refine s_skip rfl rfl rfl ?_
              refine s_skip rfl rfl rfl ?_
              refine s_skip rfl rfl rfl ?_
              refine s_skip rfl rfl rfl ?_
              refine s_skip rfl rfl rfl ?_
              refine s_pickT rfl rfl (v := .sc (.bool true)) rfl rfl rfl rfl ?_
              refine s_pickT rfl rfl (by conv => lhs; whnf) rfl rfl rfl ?_
              refine rt_nil ?_
              refine Exists.intro ⟨true, h⟩ ?_
              refine entX [((3, 0), ⟨26, 2, [[.sc (.string x4.apex), .ref (15, 101) 0 x4.l.length]], false, true⟩, some (3, 0)), ((15, 101), ⟨39, 6, List.map recV x4.l, false, true⟩, some (15, 101)), ((26, 0), ⟨9, 1, List.map strV x10, false, true⟩, some (26, 0))] [] ⟨⟨rfl, _, rfl, rfl, rfl, rfl, id, rowsCv_one (.cons (.free rfl) (.cons (.ref rfl) .nil)), rowsZ_one rfl⟩, ⟨rfl, _, rfl, rfl, rfl, rfl, id, rowsCv_eq rfl (allFree_map recV_free), rowsZ_map recV_len⟩, ⟨rfl, _, rfl, rfl, rfl, rfl, id, rowsCv_eq rfl (allFree_map strV_free), rowsZ_map strV_len⟩, trivial⟩ trivial rfl rfl ?_
              exact ⟨(.ptr rfl), (.ref rfl), (.free rfl), trivial⟩
            · replace h := cond_f h b16
              refine s_mv (.inl rfl) (by conv => lhs; whnf) rfl rfl rfl ?_
              refine s_fieldAddr rfl rfl fd26_0 rfl rfl rfl rfl ?_
              refine s_load rfl rfl rfl rfl ty9 rfl (.inr rfl) (by conv => lhs; whnf) rfl rfl rfl ?_
              refine s_of (st_eqS rfl rfl rfl) rfl rfl rfl rfl ?_
              refine s_pickF rfl rfl (by conv => lhs; whnf) rfl rfl rfl ?_
              refine s_mv (.inl rfl) (by conv => lhs; whnf) rfl rfl rfl ?_
              refine s_split (t := 80) rfl (fun b17 => ?_) (fun b17 => ?_)
              · replace h := cond_t h b17
                refine s_skip rfl rfl rfl ?_
                refine s_skip rfl rfl rfl ?_
                refine s_skip rfl rfl rfl ?_
                refine s_skip rfl rfl rfl ?_
                refine s_skip rfl rfl rfl ?_
                refine s_pickT rfl rfl (v := .sc (.bool true)) rfl rfl rfl rfl ?_
                refine s_pickT rfl rfl (by conv => lhs; whnf) rfl rfl rfl ?_
                refine rt_nil ?_
                refine Exists.intro ⟨true, h⟩ ?_
                refine entX [((3, 0), ⟨26, 2, [[.sc (.string x4.apex), .ref (15, 101) 0 x4.l.length]], false, true⟩, some (3, 0)), ((15, 101), ⟨39, 6, List.map recV x4.l, false, true⟩, some (15, 101)), ((26, 0), ⟨9, 1, List.map strV x10, false, true⟩, some (26, 0))] [] ⟨⟨rfl, _, rfl, rfl, rfl, rfl, id, rowsCv_one (.cons (.free rfl) (.cons (.ref rfl) .nil)), rowsZ_one rfl⟩, ⟨rfl, _, rfl, rfl, rfl, rfl, id, rowsCv_eq rfl (allFree_map recV_free), rowsZ_map recV_len⟩, ⟨rfl, _, rfl, rfl, rfl, rfl, id, rowsCv_eq rfl (allFree_map strV_free), rowsZ_map strV_len⟩, trivial⟩ trivial rfl rfl ?_
                exact ⟨(.ptr rfl), (.ref rfl), (.free rfl), trivial⟩
              · replace h := cond_f h b17
                refine s_mv (.inl rfl) (by conv => lhs; whnf) rfl rfl rfl ?_
                refine s_fieldAddr rfl rfl fd26_0 rfl rfl rfl rfl ?_
                refine s_load rfl rfl rfl rfl ty9 rfl (.inr rfl) (by conv => lhs; whnf) rfl rfl rfl ?_
                refine bnd1_elim h fun x18 q19 h => ?_
                refine s_callN (kb := []) (ns := []) (v := .sc (.bool x18)) rfl rfl cl17 (wi_Under x7 x4.apex x18 q19) rfl (.cons (.free rfl) (.cons (.free rfl) .nil)) trivial memNil .nil memNil rfl trivial memNil rfl rfl rfl rfl rfl rfl ?_
                refine s_of (st_not rfl rfl) rfl rfl rfl rfl ?_
                refine s_pickF rfl rfl (by conv => lhs; whnf) rfl rfl rfl ?_
                refine s_pickT rfl rfl (by conv => lhs; whnf) rfl rfl rfl ?_
                refine rt_nil ?_
                refine Exists.intro ⟨!x18, h⟩ ?_
                refine entX [((3, 0), ⟨26, 2, [[.sc (.string x4.apex), .ref (15, 101) 0 x4.l.length]], false, true⟩, some (3, 0)), ((15, 101), ⟨39, 6, List.map recV x4.l, false, true⟩, some (15, 101)), ((26, 0), ⟨9, 1, List.map strV x10, false, true⟩, some (26, 0))] [] ⟨⟨rfl, _, rfl, rfl, rfl, rfl, id, rowsCv_one (.cons (.free rfl) (.cons (.ref rfl) .nil)), rowsZ_one rfl⟩, ⟨rfl, _, rfl, rfl, rfl, rfl, id, rowsCv_eq rfl (allFree_map recV_free), rowsZ_map recV_len⟩, ⟨rfl, _, rfl, rfl, rfl, rfl, id, rowsCv_eq rfl (allFree_map strV_free), rowsZ_map strV_len⟩, trivial⟩ trivial rfl rfl ?_
                exact ⟨(.ptr rfl), (.ref rfl), (.free rfl), trivial⟩
          · replace h := cond_f h b13
            refine s_skip rfl rfl rfl ?_
            refine s_skip rfl rfl rfl ?_
            refine s_skip rfl rfl rfl ?_
            refine s_skip rfl rfl rfl ?_
            refine s_skip rfl rfl rfl ?_
            refine s_skip rfl rfl rfl ?_
            refine s_skip rfl rfl rfl ?_
            refine s_skip rfl rfl rfl ?_
            refine s_skip rfl rfl rfl ?_
            refine s_skip rfl rfl rfl ?_
            refine s_skip rfl rfl rfl ?_
            refine s_skip rfl rfl rfl ?_
            refine s_skip rfl rfl rfl ?_
            refine s_skip rfl rfl rfl ?_
            refine s_skip rfl rfl rfl ?_
            refine s_skip rfl rfl rfl ?_
            refine s_skip rfl rfl rfl ?_
            refine s_skip rfl rfl rfl ?_
            refine s_pickF rfl rfl (v := .sc (.bool false)) rfl rfl rfl rfl ?_
            refine rt_nil ?_
            refine Exists.intro ⟨false, h⟩ ?_
            refine entX [((3, 0), ⟨26, 2, [[.sc (.string x4.apex), .ref (15, 101) 0 x4.l.length]], false, true⟩, some (3, 0)), ((15, 101), ⟨39, 6, List.map recV x4.l, false, true⟩, some (15, 101)), ((26, 0), ⟨9, 1, List.map strV x10, false, true⟩, some (26, 0))] [] ⟨⟨rfl, _, rfl, rfl, rfl, rfl, id, rowsCv_one (.cons (.free rfl) (.cons (.ref rfl) .nil)), rowsZ_one rfl⟩, ⟨rfl, _, rfl, rfl, rfl, rfl, id, rowsCv_eq rfl (allFree_map recV_free), rowsZ_map recV_len⟩, ⟨rfl, _, rfl, rfl, rfl, rfl, id, rowsCv_eq rfl (allFree_map strV_free), rowsZ_map strV_len⟩, trivial⟩ trivial rfl rfl ?_
            exact ⟨(.ptr rfl), (.ref rfl), (.free rfl), trivial⟩
        · rintro ⟨j1_0, h⟩
          replace h : w_FnZones_j1 x4 x10 j1_0 = some r0 := h
          unfold w_FnZones_j1 at h
          show Tri _ _ _ (inv_w_FnZones_1 x4 x10 j1_0)
          refine tri_cond rfl (fun c13 => ?_) (fun c13 => ?_)
          · replace h := cond_t h c13
            refine tri_seq ?_
            refine tri_region ?_
            refine s_mv (.inr rfl) (v := .sc (.bool false)) rfl rfl rfl rfl ?_
            refine rt_nil ?_
            refine tri_ret ?_
            have e0 := (some1 h); subst e0
            exact endY [] [] (rvC (resTmp rfl) rvN) trivial trivial rfl rfl rfl rfl (.free rfl)
          · replace h := cond_f h c13
            refine tri_skip ?_
            refine tri_cutI (ι := { p : Unit // w_FnZones_j2 x4 = some r0 }) (fun p => inv_w_FnZones_2 x4) ?_ ?_
            · skip
              refine tri_seq ?_
              refine tri_region ?_
              refine s_mv (.inr rfl) (v := .sc (.int .i64 0)) rfl rfl rfl rfl ?_
              refine rt_nil ?_
              refine tri_block ?_
              refine tri_ownM (26, 0) rfl (fun hl3 => ?_)
              refine tri_loop (ι := { p : (List ByteArray) × Nat // x10.drop p.2 = p.1 ∧ w_FnZones_l3 x4 p.1 p.2 = some r0 }) (fun p => inv_w_FnZones_3 x4 x10 p.1.2) (fun p => p.1.1.length) ⟨(x10, 0), rfl, h⟩ ?_ ?_
              · skip
                refine entX [((3, 0), ⟨26, 2, [[.sc (.string x4.apex), .ref (15, 101) 0 x4.l.length]], false, true⟩, some (3, 0)), ((15, 101), ⟨39, 6, List.map recV x4.l, false, true⟩, some (15, 101)), ((26, 0), ⟨9, 1, List.map strV x10, false, true⟩, some (26, 0))] [] ⟨⟨rfl, _, rfl, rfl, rfl, rfl, id, rowsCv_one (.cons (.free rfl) (.cons (.ref rfl) .nil)), rowsZ_one rfl⟩, ⟨rfl, _, rfl, rfl, rfl, rfl, id, rowsCv_eq rfl (allFree_map recV_free), rowsZ_map recV_len⟩, ⟨rfl, _, rfl, rfl, rfl, rfl, id, rowsCv_eq rfl (allFree_map strV_free), rowsZ_map strV_len⟩, trivial⟩ trivial rfl rfl ?_
                exact ⟨(.ptr rfl), (.ref rfl), (.free rfl), trivial⟩
              · rintro ⟨⟨lrs3, v3_0⟩, hd3, h⟩
                replace hd3 : x10.drop v3_0 = lrs3 := hd3
                replace h : w_FnZones_l3 x4 lrs3 v3_0 = some r0 := h
                show Tri _ _ _ (inv_w_FnZones_3 x4 x10 v3_0)
                refine tri_seq ?_
                refine tri_seq ?_
                refine tri_region ?_
                refine s_mv (.inl rfl) (by conv => lhs; whnf) rfl rfl rfl ?_
                refine s_mv (.inl rfl) (by conv => lhs; whnf) rfl rfl rfl ?_
                refine s_len (m := x10.length) rfl sl33 rfl rfl rfl rfl ?_
                refine s_of (st_lss rfl rfl rfl) rfl rfl rfl rfl ?_
                refine rt_nil ?_
                refine tri_cond rfl (fun c14 => ?_) (fun c14 => ?_)
                · refine drop_elim hd3 c14 fun e3 rs3 he hx3 hn3 => ?_
                  subst he
                  rw [w_FnZones_l3] at h
                  refine tri_skip ?_
                  refine tri_seq ?_
                  refine tri_block ?_
                  refine tri_cutI (ι := { p : Bool // w_FnZones_j4 v3_0 (w_FnZones_l3 x4 rs3) p = some r0 }) (fun p => inv_w_FnZones_4 x4 x10 v3_0 p.1) ?_ ?_
                  · skip
                    refine tri_draw mixed ?_
                    refine s_fieldAddr rfl rfl fd26_1 rfl rfl rfl rfl ?_
                    refine s_load rfl rfl rfl rfl ty24 rfl (.inr rfl) (by conv => lhs; whnf) rfl rfl rfl ?_
                    refine s_mv (.inl rfl) (by conv => lhs; whnf) rfl rfl rfl ?_
                    refine s_mv (.inl rfl) (by conv => lhs; whnf) rfl rfl rfl ?_
                    refine s_index0 (i := v3_0) rfl rfl rfl rfl sl33 rfl (get_lt hx3) rfl rfl rfl ?_
                    refine s_load rfl rfl rfl (rowG hx3) ty9 rfl (.inr rfl) (by conv => lhs; whnf) rfl rfl rfl ?_
                    refine bnd1_elim h fun x15 q16 h => ?_
                    refine s_callN (kb := [(15, 101)]) (ns := []) (v := .ref (100, 0) 0 x15.length) rfl rfl cl21 (wi_SetOf x4.l e3 2 x15 q16) rfl (.cons (lendL rfl (.head _) rfl recV_free recV_len) (.cons (.free rfl) (.cons (.free rfl) .nil))) trivial memNil .nil (fun _ _ => List.not_mem_nil) rfl ⟨(allSc_map recV_sc), trivial⟩ memNil rfl (by first | (simp only [V.mat, V.mat1, V.mat0, matL, matT, List.length_map]; done) | (simp only [V.mat, V.mat1, V.mat0, matL, matT, List.length_map]; rfl)) rfl rfl rfl rfl ?_
                    refine s_len (m := x15.length) rfl sl24 rfl rfl rfl rfl ?_
                    refine s_of (st_eqI rfl rfl rfl) rfl rfl rfl rfl ?_
                    refine s_mv (.inl rfl) (by conv => lhs; whnf) rfl rfl rfl ?_
                    refine s_split (t := 103) rfl (fun b17 => ?_) (fun b17 => ?_)
                    · replace h := cond_t h b17
                      refine s_skip rfl rfl rfl ?_
                      refine s_skip rfl rfl rfl ?_
                      refine s_skip rfl rfl rfl ?_
                      refine s_skip rfl rfl rfl ?_
                      refine s_skip rfl rfl rfl ?_
                      refine s_skip rfl rfl rfl ?_
                      refine s_pickT rfl rfl (v := .sc (.bool true)) rfl rfl rfl rfl ?_
                      refine rt_nil ⟨by kernel_rfl, ?_⟩
                      refine Exists.intro ⟨true, h⟩ ?_
                      refine entX [((3, 0), ⟨26, 2, [[.sc (.string x4.apex), .ref (15, 101) 0 x4.l.length]], false, true⟩, some (3, 0)), ((15, 101), ⟨39, 6, List.map recV x4.l, false, true⟩, some (15, 101)), ((26, 0), ⟨9, 1, List.map strV x10, false, true⟩, some (26, 0))] [] ⟨⟨rfl, _, rfl, rfl, rfl, rfl, id, rowsCv_one (.cons (.free rfl) (.cons (.ref rfl) .nil)), rowsZ_one rfl⟩, ⟨rfl, _, rfl, rfl, rfl, rfl, id, rowsCv_eq rfl (allFree_map recV_free), rowsZ_map recV_len⟩, ⟨rfl, _, rfl, rfl, rfl, rfl, id, rowsCv_eq rfl (allFree_map strV_free), rowsZ_map strV_len⟩, trivial⟩ trivial rfl rfl ?_
                      exact ⟨(.ptr rfl), (.ref rfl), (.free rfl), (.free rfl), trivial⟩
                    · replace h := cond_f h b17
                      refine s_loadR rfl rfl rfl rfl ty26 rfl rfl rfl ?_
                      refine s_mv (.inl rfl) (by conv => lhs; whnf) rfl rfl rfl ?_
                      refine s_mv (.inl rfl) (by conv => lhs; whnf) rfl rfl rfl ?_
                      refine s_index0 (i := v3_0) rfl rfl rfl rfl sl33 rfl (get_lt hx3) rfl rfl rfl ?_
                      refine s_load rfl rfl rfl (rowG hx3) ty9 rfl (.inr rfl) (by conv => lhs; whnf) rfl rfl rfl ?_
                      refine bnd1_elim h fun x18 q19 h => ?_
                      refine s_callN (kb := [(15, 101)]) (ns := []) (v := .sc (.bool x18)) rfl rfl cl16 (wi_InZone x4 e3 x18 q19) rfl (.cons (relAggL (.cons (.free rfl) (.cons (lendL rfl (.head _) rfl recV_free recV_len) .nil))) (.cons (.free rfl) .nil)) trivial memNil .nil (fun _ _ => List.not_mem_nil) rfl trivial memNil rfl rfl rfl rfl rfl rfl ?_
                      refine s_pickF rfl rfl (by conv => lhs; whnf) rfl rfl rfl ?_
                      refine rt_nil ⟨by kernel_rfl, ?_⟩
                      refine Exists.intro ⟨x18, h⟩ ?_
                      refine entX [((3, 0), ⟨26, 2, [[.sc (.string x4.apex), .ref (15, 101) 0 x4.l.length]], false, true⟩, some (3, 0)), ((15, 101), ⟨39, 6, List.map recV x4.l, false, true⟩, some (15, 101)), ((26, 0), ⟨9, 1, List.map strV x10, false, true⟩, some (26, 0))] [] ⟨⟨rfl, _, rfl, rfl, rfl, rfl, id, rowsCv_one (.cons (.free rfl) (.cons (.ref rfl) .nil)), rowsZ_one rfl⟩, ⟨rfl, _, rfl, rfl, rfl, rfl, id, rowsCv_eq rfl (allFree_map recV_free), rowsZ_map recV_len⟩, ⟨rfl, _, rfl, rfl, rfl, rfl, id, rowsCv_eq rfl (allFree_map strV_free), rowsZ_map strV_len⟩, trivial⟩ trivial rfl rfl ?_
                      exact ⟨(.ptr rfl), (.ref rfl), (.free rfl), (.free rfl), trivial⟩
                  · rintro ⟨j4_0, h⟩
                    replace h : w_FnZones_j4 v3_0 (w_FnZones_l3 x4 rs3) j4_0 = some r0 := h
                    unfold w_FnZones_j4 at h
                    show Tri _ _ _ (inv_w_FnZones_4 x4 x10 v3_0 j4_0)
                    refine tri_cond rfl (fun c15 => ?_) (fun c15 => ?_)
                    · replace h := cond_t h c15
                      refine tri_seq ?_
                      refine tri_region ?_
                      refine s_mv (.inr rfl) (v := .sc (.bool false)) rfl rfl rfl rfl ?_
                      refine rt_nil ?_
                      refine tri_ret ?_
                      have e0 := (some1 h); subst e0
                      exact endY [] [] (rvC (resTmp rfl) rvN) trivial trivial rfl rfl rfl rfl (.free rfl)
                    · replace h := cond_f h c15
                      refine tri_skip ?_
                      refine tri_region ?_
                      refine s_mv (.inl rfl) (by conv => lhs; whnf) rfl rfl rfl ?_
                      refine s_inc (a := v3_0) (b := 1) rfl rfl rfl rfl (by have := get_lt hx3; have := hl3; omega) rfl rfl rfl ?_
                      refine s_mv (.inr rfl) (by conv => lhs; whnf) rfl rfl rfl ?_
                      refine rt_nil ?_
                      refine Exists.intro ⟨(rs3, (v3_0 + 1)), hn3, h⟩ (And.intro (Nat.lt_succ_self _) ?_)
                      refine entX [((3, 0), ⟨26, 2, [[.sc (.string x4.apex), .ref (15, 101) 0 x4.l.length]], false, true⟩, some (3, 0)), ((15, 101), ⟨39, 6, List.map recV x4.l, false, true⟩, some (15, 101)), ((26, 0), ⟨9, 1, List.map strV x10, false, true⟩, some (26, 0))] [] ⟨⟨rfl, _, rfl, rfl, rfl, rfl, id, rowsCv_one (.cons (.free rfl) (.cons (.ref rfl) .nil)), rowsZ_one rfl⟩, ⟨rfl, _, rfl, rfl, rfl, rfl, id, rowsCv_eq rfl (allFree_map recV_free), rowsZ_map recV_len⟩, ⟨rfl, _, rfl, rfl, rfl, rfl, id, rowsCv_eq rfl (allFree_map strV_free), rowsZ_map strV_len⟩, trivial⟩ trivial rfl rfl ?_
                      exact ⟨(.ptr rfl), (.ref rfl), (.free rfl), trivial⟩
                · have he := drop_f hd3 c14; subst he
                  rw [w_FnZones_l3] at h
                  refine tri_exit ?_
                  refine Exists.intro ⟨(), h⟩ ?_
                  refine entX [((3, 0), ⟨26, 2, [[.sc (.string x4.apex), .ref (15, 101) 0 x4.l.length]], false, true⟩, some (3, 0)), ((15, 101), ⟨39, 6, List.map recV x4.l, false, true⟩, some (15, 101))] [] ⟨⟨rfl, _, rfl, rfl, rfl, rfl, id, rowsCv_one (.cons (.free rfl) (.cons (.ref rfl) .nil)), rowsZ_one rfl⟩, ⟨rfl, _, rfl, rfl, rfl, rfl, id, rowsCv_eq rfl (allFree_map recV_free), rowsZ_map recV_len⟩, trivial⟩ trivial rfl rfl ?_
                  exact ⟨(.ptr rfl), trivial⟩
            · rintro ⟨u, h⟩
              replace h : w_FnZones_j2 x4 = some r0 := h
              unfold w_FnZones_j2 at h
              show Tri _ _ _ (inv_w_FnZones_2 x4)
              refine tri_cutI (ι := { p : Unit // w_FnZones_j5 x4 = some r0 }) (fun p => inv_w_FnZones_5 x4) ?_ ?_
              · skip
                refine tri_seq ?_
                refine tri_region ?_
                refine s_mv (.inr rfl) (v := .sc (.int .i64 0)) rfl rfl rfl rfl ?_
                refine rt_nil ?_
                refine tri_block ?_
                refine tri_ownM (15, 101) rfl (fun hl6 => ?_)
                refine tri_loop (ι := { p : (List Rec) × Nat // x4.l.drop p.2 = p.1 ∧ w_FnZones_l6 x4 p.1 p.2 = some r0 }) (fun p => inv_w_FnZones_6 x4 p.1.2) (fun p => p.1.1.length) ⟨(x4.l, 0), rfl, h⟩ ?_ ?_
                · skip
                  refine entX [((3, 0), ⟨26, 2, [[.sc (.string x4.apex), .ref (15, 101) 0 x4.l.length]], false, true⟩, some (3, 0)), ((15, 101), ⟨39, 6, List.map recV x4.l, false, true⟩, some (15, 101))] [] ⟨⟨rfl, _, rfl, rfl, rfl, rfl, id, rowsCv_one (.cons (.free rfl) (.cons (.ref rfl) .nil)), rowsZ_one rfl⟩, ⟨rfl, _, rfl, rfl, rfl, rfl, id, rowsCv_eq rfl (allFree_map recV_free), rowsZ_map recV_len⟩, trivial⟩ trivial rfl rfl ?_
                  exact ⟨(.ptr rfl), (.free rfl), trivial⟩
                · rintro ⟨⟨lrs6, v6_0⟩, hd6, h⟩
                  replace hd6 : x4.l.drop v6_0 = lrs6 := hd6
                  replace h : w_FnZones_l6 x4 lrs6 v6_0 = some r0 := h
                  show Tri _ _ _ (inv_w_FnZones_6 x4 v6_0)
                  refine tri_seq ?_
                  refine tri_seq ?_
                  refine tri_region ?_
                  refine s_mv (.inl rfl) (by conv => lhs; whnf) rfl rfl rfl ?_
                  refine s_fieldAddr rfl rfl fd26_1 rfl rfl rfl rfl ?_
                  refine s_load rfl rfl rfl rfl ty24 rfl (.inr rfl) (by conv => lhs; whnf) rfl rfl rfl ?_
                  refine s_len (m := x4.l.length) rfl sl24 rfl rfl rfl rfl ?_
                  refine s_of (st_lss rfl rfl rfl) rfl rfl rfl rfl ?_
                  refine rt_nil ?_
                  refine tri_cond rfl (fun c14 => ?_) (fun c14 => ?_)
                  · refine drop_elim hd6 c14 fun e6 rs6 he hx6 hn6 => ?_
                    subst he
                    rw [w_FnZones_l6] at h
                    refine tri_skip ?_
                    refine tri_seq ?_
                    refine tri_block ?_
                    refine tri_seq ?_
                    refine tri_region ?_
                    refine s_fieldAddr rfl rfl fd26_1 rfl rfl rfl rfl ?_
                    refine s_load rfl rfl rfl rfl ty24 rfl (.inr rfl) (by conv => lhs; whnf) rfl rfl rfl ?_
                    refine s_mv (.inl rfl) (by conv => lhs; whnf) rfl rfl rfl ?_
                    refine s_index0 (i := v6_0) rfl rfl rfl rfl sl24 rfl (get_lt hx6) rfl rfl rfl ?_
                    refine s_loadR rfl rfl rfl (rowG hx6) ty39 rfl rfl rfl ?_
                    refine s_alloc rfl rfl rfl zc39 rfl rfl rfl rfl rfl ?_
                    refine s_storeB rfl rfl rfl ty39 rfl rfl rfl rfl rfl ?_
                    refine rt_nil ?_
                    refine tri_cutI (ι := { p : Bool // w_FnZones_j7 v6_0 (w_FnZones_l6 x4 rs6) p = some r0 }) (fun p => inv_w_FnZones_7 x4 v6_0 p.1) ?_ ?_
                    · skip
                      refine tri_region ?_
                      refine s_loadR rfl rfl rfl rfl ty26 rfl rfl rfl ?_
                      refine s_fieldAddr rfl rfl fd39_0 rfl rfl rfl rfl ?_
                      refine s_load rfl rfl rfl rfl ty9 rfl (.inr rfl) (by conv => lhs; whnf) rfl rfl rfl ?_
                      refine bnd1_elim h fun x15 q16 h => ?_
                      refine s_callN (kb := [(15, 101)]) (ns := []) (v := .sc (.bool x15)) rfl rfl cl16 (wi_InZone x4 e6.name x15 q16) rfl (.cons (relAggL (.cons (.free rfl) (.cons (lendL rfl (.head _) rfl recV_free recV_len) .nil))) (.cons (.free rfl) .nil)) trivial memNil .nil (fun _ _ => List.not_mem_nil) rfl trivial memNil rfl rfl rfl rfl rfl rfl ?_
                      refine s_of (st_not rfl rfl) rfl rfl rfl rfl ?_
                      refine s_mv (.inl rfl) (by conv => lhs; whnf) rfl rfl rfl ?_
                      refine s_split (t := 128) rfl (fun b17 => ?_) (fun b17 => ?_)
                      · replace h := cond_t h b17
                        refine s_fieldAddr rfl rfl fd39_1 rfl rfl rfl rfl ?_
                        refine s_load rfl rfl rfl rfl ty3 rfl (.inr rfl) (by conv => lhs; whnf) rfl rfl rfl ?_
                        refine s_of (st_neI rfl rfl rfl) rfl rfl rfl rfl ?_
                        refine s_pickT rfl rfl (by conv => lhs; whnf) rfl rfl rfl ?_
                        refine s_mv (.inl rfl) (by conv => lhs; whnf) rfl rfl rfl ?_
                        refine s_split (t := 133) rfl (fun b18 => ?_) (fun b18 => ?_)
                        · replace h := cond_t h b18
                          refine s_fieldAddr rfl rfl fd39_1 rfl rfl rfl rfl ?_
                          refine s_load rfl rfl rfl rfl ty3 rfl (.inr rfl) (by conv => lhs; whnf) rfl rfl rfl ?_
                          refine s_of (st_neI rfl rfl rfl) rfl rfl rfl rfl ?_
                          refine s_pickT rfl rfl (by conv => lhs; whnf) rfl rfl rfl ?_
                          refine s_mv (.inl rfl) (by conv => lhs; whnf) rfl rfl rfl ?_
                          refine s_split (t := 138) rfl (fun b19 => ?_) (fun b19 => ?_)
                          · replace h := cond_t h b19
                            refine s_skip rfl rfl rfl ?_
                            refine s_skip rfl rfl rfl ?_
                            refine s_skip rfl rfl rfl ?_
                            refine s_skip rfl rfl rfl ?_
                            refine s_skip rfl rfl rfl ?_
                            refine s_pickT rfl rfl (v := .sc (.bool true)) rfl rfl rfl rfl ?_
                            refine rt_nil ?_
                            refine Exists.intro ⟨true, h⟩ ?_
                            refine entX [((3, 0), ⟨26, 2, [[.sc (.string x4.apex), .ref (15, 101) 0 x4.l.length]], false, true⟩, some (3, 0)), ((15, 101), ⟨39, 6, List.map recV x4.l, false, true⟩, some (15, 101))] [] ⟨⟨rfl, _, rfl, rfl, rfl, rfl, id, rowsCv_one (.cons (.free rfl) (.cons (.ref rfl) .nil)), rowsZ_one rfl⟩, ⟨rfl, _, rfl, rfl, rfl, rfl, id, rowsCv_eq rfl (allFree_map recV_free), rowsZ_map recV_len⟩, trivial⟩ trivial rfl rfl ?_
                            exact ⟨(.ptr rfl), (.free rfl), (.free rfl), trivial⟩
                          · replace h := cond_f h b19
                            refine s_loadR rfl rfl rfl rfl ty26 rfl rfl rfl ?_
                            refine s_fieldAddr rfl rfl fd39_0 rfl rfl rfl rfl ?_
                            refine s_load rfl rfl rfl rfl ty9 rfl (.inr rfl) (by conv => lhs; whnf) rfl rfl rfl ?_
                            refine bnd1_elim h fun x20 q21 h => ?_
                            refine s_callN (kb := [(15, 101)]) (ns := []) (v := .sc (.bool x20)) rfl rfl cl18 (wi_Exists x4 e6.name x20 q21) rfl (.cons (relAggL (.cons (.free rfl) (.cons (lendL rfl (.head _) rfl recV_free recV_len) .nil))) (.cons (.free rfl) .nil)) trivial memNil .nil (fun _ _ => List.not_mem_nil) rfl trivial memNil rfl rfl rfl rfl rfl rfl ?_
                            refine s_of (st_not rfl rfl) rfl rfl rfl rfl ?_
                            refine s_pickF rfl rfl (by conv => lhs; whnf) rfl rfl rfl ?_
                            refine rt_nil ?_
                            refine Exists.intro ⟨!x20, h⟩ ?_
                            refine entX [((3, 0), ⟨26, 2, [[.sc (.string x4.apex), .ref (15, 101) 0 x4.l.length]], false, true⟩, some (3, 0)), ((15, 101), ⟨39, 6, List.map recV x4.l, false, true⟩, some (15, 101))] [] ⟨⟨rfl, _, rfl, rfl, rfl, rfl, id, rowsCv_one (.cons (.free rfl) (.cons (.ref rfl) .nil)), rowsZ_one rfl⟩, ⟨rfl, _, rfl, rfl, rfl, rfl, id, rowsCv_eq rfl (allFree_map recV_free), rowsZ_map recV_len⟩, trivial⟩ trivial rfl rfl ?_
                            exact ⟨(.ptr rfl), (.free rfl), (.free rfl), trivial⟩
                        · replace h := cond_f h b18
                          refine s_skip rfl rfl rfl ?_
                          refine s_skip rfl rfl rfl ?_
                          refine s_skip rfl rfl rfl ?_
                          refine s_pickF rfl rfl (v := .sc (.bool false)) rfl rfl rfl rfl ?_
                          refine s_mv (.inl rfl) (by conv => lhs; whnf) rfl rfl rfl ?_
                          refine s_loadR rfl rfl rfl rfl ty26 rfl rfl rfl ?_
                          refine s_fieldAddr rfl rfl fd39_0 rfl rfl rfl rfl ?_
                          refine s_load rfl rfl rfl rfl ty9 rfl (.inr rfl) (by conv => lhs; whnf) rfl rfl rfl ?_
                          refine bnd1_elim h fun x22 q23 h => ?_
                          refine s_callN (kb := [(15, 101)]) (ns := []) (v := .sc (.bool x22)) rfl rfl cl18 (wi_Exists x4 e6.name x22 q23) rfl (.cons (relAggL (.cons (.free rfl) (.cons (lendL rfl (.head _) rfl recV_free recV_len) .nil))) (.cons (.free rfl) .nil)) trivial memNil .nil (fun _ _ => List.not_mem_nil) rfl trivial memNil rfl rfl rfl rfl rfl rfl ?_
                          refine s_of (st_not rfl rfl) rfl rfl rfl rfl ?_
                          refine s_pickF rfl rfl (by conv => lhs; whnf) rfl rfl rfl ?_
                          refine rt_nil ?_
                          refine Exists.intro ⟨!x22, h⟩ ?_
                          refine entX [((3, 0), ⟨26, 2, [[.sc (.string x4.apex), .ref (15, 101) 0 x4.l.length]], false, true⟩, some (3, 0)), ((15, 101), ⟨39, 6, List.map recV x4.l, false, true⟩, some (15, 101))] [] ⟨⟨rfl, _, rfl, rfl, rfl, rfl, id, rowsCv_one (.cons (.free rfl) (.cons (.ref rfl) .nil)), rowsZ_one rfl⟩, ⟨rfl, _, rfl, rfl, rfl, rfl, id, rowsCv_eq rfl (allFree_map recV_free), rowsZ_map recV_len⟩, trivial⟩ trivial rfl rfl ?_
                          exact ⟨(.ptr rfl), (.free rfl), (.free rfl), trivial⟩
                      · replace h := cond_f h b17
                        refine s_skip rfl rfl rfl ?_
                        refine s_skip rfl rfl rfl ?_
                        refine s_skip rfl rfl rfl ?_
                        refine s_pickF rfl rfl (v := .sc (.bool false)) rfl rfl rfl rfl ?_
                        refine s_mv (.inl rfl) (by conv => lhs; whnf) rfl rfl rfl ?_
                        refine s_skip rfl rfl rfl ?_
                        refine s_skip rfl rfl rfl ?_
                        refine s_skip rfl rfl rfl ?_
                        refine s_pickF rfl rfl (v := .sc (.bool false)) rfl rfl rfl rfl ?_
                        refine s_mv (.inl rfl) (by conv => lhs; whnf) rfl rfl rfl ?_
                        refine s_loadR rfl rfl rfl rfl ty26 rfl rfl rfl ?_
                        refine s_fieldAddr rfl rfl fd39_0 rfl rfl rfl rfl ?_
                        refine s_load rfl rfl rfl rfl ty9 rfl (.inr rfl) (by conv => lhs; whnf) rfl rfl rfl ?_
                        refine bnd1_elim h fun x24 q25 h => ?_
                        refine s_callN (kb := [(15, 101)]) (ns := []) (v := .sc (.bool x24)) rfl rfl cl18 (wi_Exists x4 e6.name x24 q25) rfl (.cons (relAggL (.cons (.free rfl) (.cons (lendL rfl (.head _) rfl recV_free recV_len) .nil))) (.cons (.free rfl) .nil)) trivial memNil .nil (fun _ _ => List.not_mem_nil) rfl trivial memNil rfl rfl rfl rfl rfl rfl ?_
                        refine s_of (st_not rfl rfl) rfl rfl rfl rfl ?_
                        refine s_pickF rfl rfl (by conv => lhs; whnf) rfl rfl rfl ?_
                        refine rt_nil ?_
                        refine Exists.intro ⟨!x24, h⟩ ?_
                        refine entX [((3, 0), ⟨26, 2, [[.sc (.string x4.apex), .ref (15, 101) 0 x4.l.length]], false, true⟩, some (3, 0)), ((15, 101), ⟨39, 6, List.map recV x4.l, false, true⟩, some (15, 101))] [] ⟨⟨rfl, _, rfl, rfl, rfl, rfl, id, rowsCv_one (.cons (.free rfl) (.cons (.ref rfl) .nil)), rowsZ_one rfl⟩, ⟨rfl, _, rfl, rfl, rfl, rfl, id, rowsCv_eq rfl (allFree_map recV_free), rowsZ_map recV_len⟩, trivial⟩ trivial rfl rfl ?_
                        exact ⟨(.ptr rfl), (.free rfl), (.free rfl), trivial⟩
                    · rintro ⟨j7_0, h⟩
                      replace h : w_FnZones_j7 v6_0 (w_FnZones_l6 x4 rs6) j7_0 = some r0 := h
                      unfold w_FnZones_j7 at h
                      show Tri _ _ _ (inv_w_FnZones_7 x4 v6_0 j7_0)
                      refine tri_cond rfl (fun c15 => ?_) (fun c15 => ?_)
                      · replace h := cond_t h c15
                        refine tri_seq ?_
                        refine tri_region ?_
                        refine s_mv (.inr rfl) (v := .sc (.bool false)) rfl rfl rfl rfl ?_
                        refine rt_nil ?_
                        refine tri_ret ?_
                        have e0 := (some1 h); subst e0
                        exact endY [] [] (rvC (resTmp rfl) rvN) trivial trivial rfl rfl rfl rfl (.free rfl)
                      · replace h := cond_f h c15
                        refine tri_skip ?_
                        refine tri_region ?_
                        refine s_mv (.inl rfl) (by conv => lhs; whnf) rfl rfl rfl ?_
                        refine s_inc (a := v6_0) (b := 1) rfl rfl rfl rfl (by have := get_lt hx6; have := hl6; omega) rfl rfl rfl ?_
                        refine s_mv (.inr rfl) (by conv => lhs; whnf) rfl rfl rfl ?_
                        refine rt_nil ?_
                        refine Exists.intro ⟨(rs6, (v6_0 + 1)), hn6, h⟩ (And.intro (Nat.lt_succ_self _) ?_)
                        refine entX [((3, 0), ⟨26, 2, [[.sc (.string x4.apex), .ref (15, 101) 0 x4.l.length]], false, true⟩, some (3, 0)), ((15, 101), ⟨39, 6, List.map recV x4.l, false, true⟩, some (15, 101))] [] ⟨⟨rfl, _, rfl, rfl, rfl, rfl, id, rowsCv_one (.cons (.free rfl) (.cons (.ref rfl) .nil)), rowsZ_one rfl⟩, ⟨rfl, _, rfl, rfl, rfl, rfl, id, rowsCv_eq rfl (allFree_map recV_free), rowsZ_map recV_len⟩, trivial⟩ trivial rfl rfl ?_
                        exact ⟨(.ptr rfl), (.free rfl), trivial⟩
                  · have he := drop_f hd6 c14; subst he
                    rw [w_FnZones_l6] at h
                    refine tri_exit ?_
                    refine Exists.intro ⟨(), h⟩ ?_
                    refine entX [((3, 0), ⟨26, 2, [[.sc (.string x4.apex), .ref (15, 101) 0 x4.l.length]], false, true⟩, some (3, 0)), ((15, 101), ⟨39, 6, List.map recV x4.l, false, true⟩, some (15, 101))] [] ⟨⟨rfl, _, rfl, rfl, rfl, rfl, id, rowsCv_one (.cons (.free rfl) (.cons (.ref rfl) .nil)), rowsZ_one rfl⟩, ⟨rfl, _, rfl, rfl, rfl, rfl, id, rowsCv_eq rfl (allFree_map recV_free), rowsZ_map recV_len⟩, trivial⟩ trivial rfl rfl ?_
                    exact ⟨(.ptr rfl), trivial⟩
              · rintro ⟨u, h⟩
                replace h : w_FnZones_j5 x4 = some r0 := h
                unfold w_FnZones_j5 at h
                show Tri _ _ _ (inv_w_FnZones_5 x4)
                refine tri_seq ?_
                refine tri_draw mixed ?_
                refine s_loadR rfl rfl rfl rfl ty26 rfl rfl rfl ?_
                refine bnd1_elim h fun x14 q15 h => ?_
                refine s_callN (kb := [(15, 101)]) (ns := []) (v := .agg (recV x14)) rfl rfl cl19 (wi_StartOf x4 x14 q15) rfl (.cons (relAggL (.cons (.free rfl) (.cons (lendL rfl (.head _) rfl recV_free recV_len) .nil))) .nil) trivial memNil .nil (fun _ _ => List.not_mem_nil) rfl trivial memNil rfl rfl rfl rfl rfl rfl ?_
                refine s_field rfl rfl fd39_0 rfl (.inr rfl) (by conv => lhs; whnf) rfl rfl rfl ?_
                refine s_fieldAddr rfl rfl fd26_0 rfl rfl rfl rfl ?_
                refine s_load rfl rfl rfl rfl ty9 rfl (.inr rfl) (by conv => lhs; whnf) rfl rfl rfl ?_
                refine s_of (st_eqS rfl rfl rfl) rfl rfl rfl rfl ?_
                refine s_mv (.inr rfl) (by conv => lhs; whnf) rfl rfl rfl ?_
                refine rt_nil ⟨by kernel_rfl, ?_⟩
                refine tri_ret ?_
                have e0 := (some1 h); subst e0
                exact endY [] [] (rvC (resTmp rfl) rvN) trivial trivial rfl rfl rfl rfl (.free rfl)

end Go.Abs.M
