/- Walks of the functions that the law of FnDataSame reaches: what each of them computes, where its pure function does not fail. -/
import Derived.Test.YtbkmnbpgpklojaaDoorWalkFnDataSame0
set_option linter.unusedSimpArgs false
set_option linter.unusedVariables false
namespace Go.Abs.M
open Go Go.Abs Go.Proofs
theorem cl122 : callable Tryd.prog 122 = true := by kernel_rfl
theorem cl123 : callable Tryd.prog 123 = true := by kernel_rfl
theorem cl125 : callable Tryd.prog 125 = true := by kernel_rfl
theorem cl126 : callable Tryd.prog 126 = true := by kernel_rfl
theorem cl151 : callable Tryd.prog 151 = true := by kernel_rfl
theorem cl171 : callable Tryd.prog 171 = true := by kernel_rfl
theorem cl172 : callable Tryd.prog 172 = true := by kernel_rfl
theorem cl173 : callable Tryd.prog 173 = true := by kernel_rfl
theorem cl174 : callable Tryd.prog 174 = true := by kernel_rfl
theorem cl175 : callable Tryd.prog 175 = true := by kernel_rfl
theorem cl186 : callable Tryd.prog 186 = true := by kernel_rfl
theorem cl196 : callable Tryd.prog 196 = true := by kernel_rfl
theorem cl197 : callable Tryd.prog 197 = true := by kernel_rfl
theorem cl198 : callable Tryd.prog 198 = true := by kernel_rfl
theorem cl199 : callable Tryd.prog 199 = true := by kernel_rfl
theorem cl200 : callable Tryd.prog 200 = true := by kernel_rfl
theorem cl208 : callable Tryd.prog 208 = true := by kernel_rfl
theorem cl209 : callable Tryd.prog 209 = true := by kernel_rfl
theorem cl212 : callable Tryd.prog 212 = true := by kernel_rfl
theorem cl213 : callable Tryd.prog 213 = true := by kernel_rfl
theorem cl214 : callable Tryd.prog 214 = true := by kernel_rfl
theorem cl221 : callable Tryd.prog 221 = true := by kernel_rfl
theorem cl224 : callable Tryd.prog 224 = true := by kernel_rfl
theorem cl226 : callable Tryd.prog 226 = true := by kernel_rfl
theorem cl96 : callable Tryd.prog 96 = true := by kernel_rfl
theorem ik173 : intK Tryd.prog 173 = some .u64 := by kernel_rfl
/- impl.Addrs -/
def inv_i_Addrs_1 (p0 : List Rec) (p1 : ByteArray) (v0_0 : List Int) (v0_1 : Nat) (e0 : Rec) (j1_0 : Bool) : St := mkT 38 [(1, .sc (.string p1)), (5, .ref (2005, 0) 0 v0_0.length), (7, .ptr (7, 0) 0 0), (9, .lst 6 (List.map recV p0)), (10, .sc (.int .i64 (p0.length : Int))), (11, .sc (.int .i64 (v0_1 : Int))), (30, .sc (.bool j1_0))] [((2005, 0), some ⟨3, 1, List.map intV v0_0, false, true⟩), ((7, 0), some ⟨39, 6, [[.sc (.string e0.name), .sc (.int .i64 e0.ty), .sc (.int .i64 e0.ttl), .sc (.int .i64 e0.n), .sc (.string e0.host), .sc (.string e0.text)]], false, true⟩)]
def inv_i_Addrs_0 (p0 : List Rec) (p1 : ByteArray) (v0_0 : List Int) (v0_1 : Nat) : St := mkT 38 [(1, .sc (.string p1)), (5, .ref (2005, 0) 0 v0_0.length), (9, .lst 6 (List.map recV p0)), (10, .sc (.int .i64 (p0.length : Int))), (11, .sc (.int .i64 (v0_1 : Int)))] [((2005, 0), some ⟨3, 1, List.map intV v0_0, false, true⟩)]
set_option maxRecDepth 4000 in
set_option maxHeartbeats 800000 in
theorem wi_Addrs (p0 : List Rec) (p1 : ByteArray) (r0 : List Int) (h : i_Addrs p0 p1 = some r0) : Runs Tryd.prog 44 [.lst 6 (List.map recV p0), .sc (.string p1)] [] (.own 3 1 (List.map intV r0)) [] := by
 unfold i_Addrs at h
 refine runsR [.tmp 4] Tryd.func44 rfl rfl rfl rfl ?_
 rw [Tryd.ntmps44]
 refine tri_sr ?_
 refine s_mv (.inr rfl) (v := .nils) rfl rfl rfl rfl ?_
 refine rt_nil ?_
 refine tri_sr ?_
 refine s_buildSlice (rows' := List.map intV ([] : List Int)) rfl rfl rfl sl76 zc3 rfl rfl rfl rfl rfl rfl rfl rfl rfl ?_
 refine m2 ?_
 refine rt_nil ?_
 refine tri_seq ?_
 refine tri_sr ?_
 refine m1 ?_
 refine s_lenL rfl sl24 rfl rfl rfl rfl ?_
 refine s_mv (.inl rfl) (v := .sc (.int .i64 0)) rfl rfl rfl rfl ?_
 refine rt_nil ?_
 refine tri_block ?_
 refine tri_lstM 0 rfl (fun hl0 => ?_)
 refine tri_loop (ι := { p : (List Rec) × (List Int) × Nat // p0.drop p.2.2 = p.1 ∧ i_Addrs_l0 p1 p.1 p.2.1 p.2.2 = some r0 }) (fun p => inv_i_Addrs_0 p0 p1 p.1.2.1 p.1.2.2) (fun p => p.1.1.length) ⟨(p0, ([] : List Int), 0), rfl, h⟩ ?_ ?_
 ·skip
  refine entX [((2005, 0), ⟨3, 1, List.map intV ([] : List Int), false, true⟩, some (8, 0))] [] ⟨⟨rfl, _, rfl, rfl, rfl, rfl, id, rowsCv_eq rfl (allFree_map intV_free), rowsZ_map intV_len⟩, trivial⟩ trivial rfl rfl ?_
  exact ⟨(.free rfl), (.ref rfl), (.free rfl), (.free rfl), (.free rfl), trivial⟩
 ·rintro ⟨⟨lrs0, v0_0, v0_1⟩, hd0, h⟩
  replace hd0 : p0.drop v0_1 = lrs0 := hd0
  replace h : i_Addrs_l0 p1 lrs0 v0_0 v0_1 = some r0 := h
  show Tri _ _ _ (inv_i_Addrs_0 p0 p1 v0_0 v0_1)
  refine tri_sr ?_
  refine s_of (st_lss rfl rfl rfl) rfl rfl rfl rfl ?_
  refine rt_nil ?_
  refine tri_seq ?_
  refine tri_cond rfl (fun c1 => ?_) (fun c1 => ?_)
  ·refine drop_elim hd0 c1 fun e0 rs0 he hx0 hn0 => ?_
   subst he
   rw [i_Addrs_l0] at h
   refine tri_skip ?_
   refine tri_seq ?_
   refine tri_block ?_
   refine tri_sr ?_
   refine s_indexF (i := v0_1) rfl rfl rfl sl24 (get_ltM hx0) rfl rfl rfl ?_
   refine s_loadFR rfl rfl (rowG hx0) ty39 rfl rfl rfl ?_
   refine s_alloc rfl rfl rfl zc39 rfl rfl rfl rfl rfl ?_
   refine s_storeB rfl rfl rfl ty39 rfl rfl rfl rfl rfl ?_
   refine rt_nil ?_
   refine tri_cutI (ι := { p : Bool // i_Addrs_j1 v0_0 v0_1 e0 (i_Addrs_l0 p1 rs0) p = some r0 }) (fun p => inv_i_Addrs_1 p0 p1 v0_0 v0_1 e0 p.1) ?_ ?_
   ·skip
    refine tri_region ?_
    refine s_fieldAddr rfl rfl fd39_1 rfl rfl rfl rfl ?_
    refine s_load rfl rfl rfl rfl ty3 rfl (.inr rfl) (by conv => lhs; whnf) rfl rfl rfl ?_
    refine s_of (st_eqI rfl rfl rfl) rfl rfl rfl rfl ?_
    refine m1 ?_
    refine s_split (t := 18) rfl (fun b2 => ?_) (fun b2 => ?_)
    ·replace h := cond_t h b2
     refine s_fieldAddr rfl rfl fd39_0 rfl rfl rfl rfl ?_
     refine s_load rfl rfl rfl rfl ty9 rfl (.inr rfl) (by conv => lhs; whnf) rfl rfl rfl ?_
     refine m1 ?_
     refine s_of (st_eqS rfl rfl rfl) rfl rfl rfl rfl ?_
     refine s_pickT rfl rfl (by conv => lhs; whnf) rfl rfl rfl ?_
     refine m1 ?_
     refine s_split (t := 24) rfl (fun b3 => ?_) (fun b3 => ?_)
     ·replace h := cond_t h b3
      refine m1 ?_
      refine s_fieldAddr rfl rfl fd39_3 rfl rfl rfl rfl ?_
      refine s_load rfl rfl rfl rfl ty3 rfl (.inr rfl) (by conv => lhs; whnf) rfl rfl rfl ?_
      refine bnd1_elim h fun x4 q5 h => ?_
      refine s_callN (kb := [(2005, 0)]) (ns := []) (v := .sc (.bool x4)) rfl rfl cl122 (wslices_Contains_int v0_0 e0.n x4 q5) rfl (.cons (lendL rfl (.head _) rfl intV_free intV_len) (.cons (.free rfl) .nil)) trivial memNil .nil (fun _ _ => List.not_mem_nil) rfl trivial memNil rfl rfl rfl rfl rfl rfl ?_
      refine s_of (st_not rfl rfl) rfl rfl rfl rfl ?_
      refine s_pickT rfl rfl (by conv => lhs; whnf) rfl rfl rfl ?_
      refine rt_nil ?_
      refine Exists.intro ⟨!x4, h⟩ ?_
      refine entX [((2005, 0), ⟨3, 1, List.map intV v0_0, false, true⟩, some (2005, 0)), ((7, 0), ⟨39, 6, [[.sc (.string e0.name), .sc (.int .i64 e0.ty), .sc (.int .i64 e0.ttl), .sc (.int .i64 e0.n), .sc (.string e0.host), .sc (.string e0.text)]], false, true⟩, some (7, 0))] [] ⟨⟨rfl, _, rfl, rfl, rfl, rfl, id, rowsCv_eq rfl (allFree_map intV_free), rowsZ_map intV_len⟩, ⟨rfl, _, rfl, rfl, rfl, rfl, id, rowsCv_one (.cons (.free rfl) (.cons (.free rfl) (.cons (.free rfl) (.cons (.free rfl) (.cons (.free rfl) (.cons (.free rfl) .nil)))))), rowsZ_one rfl⟩, trivial⟩ trivial rfl rfl ?_
      exact ⟨(.free rfl), (.ref rfl), (.ptr rfl), (.free rfl), (.free rfl), (.free rfl), (.free rfl), trivial⟩
     ·replace h := cond_f h b3
      refine s_skip rfl rfl rfl ?_
      refine s_skip rfl rfl rfl ?_
      refine s_skip rfl rfl rfl ?_
      refine s_skip rfl rfl rfl ?_
      refine s_skip rfl rfl rfl ?_
      refine s_pickF rfl rfl (v := .sc (.bool false)) rfl rfl rfl rfl ?_
      refine rt_nil ?_
      refine Exists.intro ⟨false, h⟩ ?_
      refine entX [((2005, 0), ⟨3, 1, List.map intV v0_0, false, true⟩, some (2005, 0)), ((7, 0), ⟨39, 6, [[.sc (.string e0.name), .sc (.int .i64 e0.ty), .sc (.int .i64 e0.ttl), .sc (.int .i64 e0.n), .sc (.string e0.host), .sc (.string e0.text)]], false, true⟩, some (7, 0))] [] ⟨⟨rfl, _, rfl, rfl, rfl, rfl, id, rowsCv_eq rfl (allFree_map intV_free), rowsZ_map intV_len⟩, ⟨rfl, _, rfl, rfl, rfl, rfl, id, rowsCv_one (.cons (.free rfl) (.cons (.free rfl) (.cons (.free rfl) (.cons (.free rfl) (.cons (.free rfl) (.cons (.free rfl) .nil)))))), rowsZ_one rfl⟩, trivial⟩ trivial rfl rfl ?_
      exact ⟨(.free rfl), (.ref rfl), (.ptr rfl), (.free rfl), (.free rfl), (.free rfl), (.free rfl), trivial⟩
    ·replace h := cond_f h b2
     refine s_skip rfl rfl rfl ?_
     refine s_skip rfl rfl rfl ?_
     refine s_skip rfl rfl rfl ?_
     refine s_skip rfl rfl rfl ?_
     refine s_pickF rfl rfl (v := .sc (.bool false)) rfl rfl rfl rfl ?_
     refine m1 ?_
     refine s_skip rfl rfl rfl ?_
     refine s_skip rfl rfl rfl ?_
     refine s_skip rfl rfl rfl ?_
     refine s_skip rfl rfl rfl ?_
     refine s_skip rfl rfl rfl ?_
     refine s_pickF rfl rfl (v := .sc (.bool false)) rfl rfl rfl rfl ?_
     refine rt_nil ?_
     refine Exists.intro ⟨false, h⟩ ?_
     refine entX [((2005, 0), ⟨3, 1, List.map intV v0_0, false, true⟩, some (2005, 0)), ((7, 0), ⟨39, 6, [[.sc (.string e0.name), .sc (.int .i64 e0.ty), .sc (.int .i64 e0.ttl), .sc (.int .i64 e0.n), .sc (.string e0.host), .sc (.string e0.text)]], false, true⟩, some (7, 0))] [] ⟨⟨rfl, _, rfl, rfl, rfl, rfl, id, rowsCv_eq rfl (allFree_map intV_free), rowsZ_map intV_len⟩, ⟨rfl, _, rfl, rfl, rfl, rfl, id, rowsCv_one (.cons (.free rfl) (.cons (.free rfl) (.cons (.free rfl) (.cons (.free rfl) (.cons (.free rfl) (.cons (.free rfl) .nil)))))), rowsZ_one rfl⟩, trivial⟩ trivial rfl rfl ?_
     exact ⟨(.free rfl), (.ref rfl), (.ptr rfl), (.free rfl), (.free rfl), (.free rfl), (.free rfl), trivial⟩
   ·rintro ⟨j1_0, h⟩
    replace h : i_Addrs_j1 v0_0 v0_1 e0 (i_Addrs_l0 p1 rs0) j1_0 = some r0 := h
    unfold i_Addrs_j1 at h
    show Tri _ _ _ (inv_i_Addrs_1 p0 p1 v0_0 v0_1 e0 j1_0)
    refine tri_cond rfl (fun c2 => ?_) (fun c2 => ?_)
    ·replace h := cond_t h c2
     refine tri_region ?_
     refine m1 ?_
     refine s_fieldAddr rfl rfl fd39_3 rfl rfl rfl rfl ?_
     refine s_load rfl rfl rfl rfl ty3 rfl (.inr rfl) (by conv => lhs; whnf) rfl rfl rfl ?_
     refine s_buildSlice (rows' := List.map intV [e0.n]) rfl rfl rfl sl76 zc3 rfl rfl rfl rfl rfl rfl rfl rfl rfl ?_
     refine grd_elim h fun g3 h => ?_
     refine s_appL rfl rfl rfl sl76 zc3 rfl rfl rfl rfl rfl rfl (src_refL rfl rfl) g3 rfl rfl ?_
     refine m2 ?_
     refine rt_nil ?_
     refine tri_region ?_
     refine s_inc (a := v0_1) (b := 1) rfl rfl rfl rfl (by have := get_lt hx0; have := hl0; omega) rfl rfl rfl ?_
     refine m1 ?_
     refine rt_nil ?_
     refine Exists.intro ⟨(rs0, v0_0 ++ [e0.n], (v0_1 + 1)), hn0, h⟩ (And.intro (Nat.lt_succ_self _) ?_)
     refine entX [((2005, 0), ⟨3, 1, List.map intV (v0_0 ++ [e0.n]), false, true⟩, some (35, 0))] [] ⟨⟨rfl, _, rfl, rfl, rfl, rfl, id, rowsCv_eq rfl (allFree_map intV_free), rowsZ_map intV_len⟩, trivial⟩ trivial rfl rfl ?_
     exact ⟨(.free rfl), (.ref rfl), (.free rfl), (.free rfl), (.free rfl), trivial⟩
    ·replace h := cond_f h c2
     refine tri_skip ?_
     refine tri_region ?_
     refine s_inc (a := v0_1) (b := 1) rfl rfl rfl rfl (by have := get_lt hx0; have := hl0; omega) rfl rfl rfl ?_
     refine m1 ?_
     refine rt_nil ?_
     refine Exists.intro ⟨(rs0, v0_0, (v0_1 + 1)), hn0, h⟩ (And.intro (Nat.lt_succ_self _) ?_)
     refine entX [((2005, 0), ⟨3, 1, List.map intV v0_0, false, true⟩, some (2005, 0))] [] ⟨⟨rfl, _, rfl, rfl, rfl, rfl, id, rowsCv_eq rfl (allFree_map intV_free), rowsZ_map intV_len⟩, trivial⟩ trivial rfl rfl ?_
     exact ⟨(.free rfl), (.ref rfl), (.free rfl), (.free rfl), (.free rfl), trivial⟩
  ·have he := drop_f hd0 c1; subst he
   rw [i_Addrs_l0] at h
   refine tri_exit ?_
   refine tri_sr ?_
   refine m1 ?_
   refine m2 ?_
   refine rt_nil ?_
   refine tri_ret ?_
   have e0 := (some1 h); subst e0
   exact endY (v' := .ref (2000, 0) 0 v0_0.length) [((2000, 0), ⟨3, 1, List.map intV v0_0, false, true⟩, some (2005, 0))] [] (rvC (resTmp rfl) rvN) ⟨⟨rfl, _, rfl, rfl, rfl, rfl, id, rowsCv_eq rfl (allFree_map intV_free), rowsZ_map intV_len⟩, trivial⟩ trivial rfl rfl (by kernel_rfl) (by simp only [V.mat, V.mat1, V.mat0, matL, matT, List.length_map] <;> rfl) (.ref rfl)

/- spec.l9HasInt -/
def inv_s_l9HasInt_0 (p0 : List Int) (p1 : Int) (v0_0 : Nat) : St := mkT 18 [(0, .lst 1 (List.map intV p0)), (1, .sc (.int .i64 p1)), (5, .sc (.int .i64 (v0_0 : Int)))] []
set_option maxRecDepth 4000 in
set_option maxHeartbeats 800000 in
theorem ws_l9HasInt (p0 : List Int) (p1 : Int) (r0 : Bool) (h : s_l9HasInt p0 p1 = some r0) : Runs Tryd.prog 123 [.lst 1 (List.map intV p0), .sc (.int .i64 p1)] [] (.sc (.bool r0)) [] := by
 unfold s_l9HasInt at h
 refine runsR [.tmp 4] Tryd.func123 rfl rfl rfl rfl ?_
 rw [Tryd.ntmps123]
 refine tri_sr ?_
 refine s_mv (.inr rfl) (v := .sc (.bool false)) rfl rfl rfl rfl ?_
 refine rt_nil ?_
 refine tri_seq ?_
 refine tri_sr ?_
 refine s_mv (.inr rfl) (v := .sc (.int .i64 0)) rfl rfl rfl rfl ?_
 refine rt_nil ?_
 refine tri_block ?_
 refine tri_lstM 0 rfl (fun hl0 => ?_)
 refine tri_loop (ι := { p : (List Int) × Nat // p0.drop p.2 = p.1 ∧ s_l9HasInt_l0 p1 p.1 p.2 = some r0 }) (fun p => inv_s_l9HasInt_0 p0 p1 p.1.2) (fun p => p.1.1.length) ⟨(p0, 0), rfl, h⟩ ?_ ?_
 ·skip
  refine entX [] [] trivial trivial rfl rfl ?_
  exact ⟨(.free rfl), (.free rfl), (.free rfl), trivial⟩
 ·rintro ⟨⟨lrs0, v0_0⟩, hd0, h⟩
  replace hd0 : p0.drop v0_0 = lrs0 := hd0
  replace h : s_l9HasInt_l0 p1 lrs0 v0_0 = some r0 := h
  show Tri _ _ _ (inv_s_l9HasInt_0 p0 p1 v0_0)
  refine tri_seq ?_
  refine tri_sr ?_
  refine m1 ?_
  refine m1 ?_
  refine s_lenL rfl sl76 rfl rfl rfl rfl ?_
  refine s_of (st_lss rfl rfl rfl) rfl rfl rfl rfl ?_
  refine rt_nil ?_
  refine tri_cond rfl (fun c1 => ?_) (fun c1 => ?_)
  ·refine drop_elim hd0 c1 fun e0 rs0 he hx0 hn0 => ?_
   subst he
   rw [s_l9HasInt_l0] at h
   refine tri_skip ?_
   refine tri_seq ?_
   refine tri_block ?_
   refine tri_sr ?_
   refine m1 ?_
   refine m1 ?_
   refine s_indexF (i := v0_0) rfl rfl rfl sl76 (get_ltM hx0) rfl rfl rfl ?_
   refine s_loadF rfl rfl (rowG hx0) ty3 rfl (.inr rfl) (by conv => lhs; whnf) rfl rfl rfl ?_
   refine m1 ?_
   refine s_of (st_eqI rfl rfl rfl) rfl rfl rfl rfl ?_
   refine rt_nil ?_
   refine tri_cond rfl (fun c2 => ?_) (fun c2 => ?_)
   ·replace h := cond_t h c2
    refine tri_sr ?_
    refine s_mv (.inr rfl) (v := .sc (.bool true)) rfl rfl rfl rfl ?_
    refine rt_nil ?_
    refine tri_ret ?_
    have e0 := (some1 h); subst e0
    exact endY [] [] (rvC (resTmp rfl) rvN) trivial trivial rfl rfl rfl rfl (.free rfl)
   ·replace h := cond_f h c2
    refine tri_skip ?_
    refine tri_region ?_
    refine m1 ?_
    refine s_inc (a := v0_0) (b := 1) rfl rfl rfl rfl (by have := get_lt hx0; have := hl0; omega) rfl rfl rfl ?_
    refine m2 ?_
    refine rt_nil ?_
    refine Exists.intro ⟨(rs0, (v0_0 + 1)), hn0, h⟩ (And.intro (Nat.lt_succ_self _) ?_)
    refine entX [] [] trivial trivial rfl rfl ?_
    exact ⟨(.free rfl), (.free rfl), (.free rfl), trivial⟩
  ·have he := drop_f hd0 c1; subst he
   rw [s_l9HasInt_l0] at h
   refine tri_exit ?_
   refine tri_sr ?_
   refine s_mv (.inr rfl) (v := .sc (.bool false)) rfl rfl rfl rfl ?_
   refine rt_nil ?_
   refine tri_ret ?_
   have e0 := (some1 h); subst e0
   exact endY [] [] (rvC (resTmp rfl) rvN) trivial trivial rfl rfl rfl rfl (.free rfl)

/- spec.Addrs -/
def inv_s_Addrs_1 (p0 : List Rec) (p1 : ByteArray) (v0_0 : List Int) (v0_1 : Nat) (j1_0 : Bool) : St := mkT 48 [(0, .lst 6 (List.map recV p0)), (1, .sc (.string p1)), (5, .ref (2005, 0) 0 v0_0.length), (6, .sc (.int .i64 (v0_1 : Int))), (38, .sc (.bool j1_0))] [((2005, 0), some ⟨3, 1, List.map intV v0_0, false, true⟩)]
def inv_s_Addrs_0 (p0 : List Rec) (p1 : ByteArray) (v0_0 : List Int) (v0_1 : Nat) : St := mkT 48 [(0, .lst 6 (List.map recV p0)), (1, .sc (.string p1)), (5, .ref (2005, 0) 0 v0_0.length), (6, .sc (.int .i64 (v0_1 : Int)))] [((2005, 0), some ⟨3, 1, List.map intV v0_0, false, true⟩)]
set_option maxRecDepth 4000 in
set_option maxHeartbeats 800000 in
theorem ws_Addrs (p0 : List Rec) (p1 : ByteArray) (r0 : List Int) (h : s_Addrs p0 p1 = some r0) : Runs Tryd.prog 45 [.lst 6 (List.map recV p0), .sc (.string p1)] [] (.own 3 1 (List.map intV r0)) [] := by
 unfold s_Addrs at h
 refine runsR [.tmp 4] Tryd.func45 rfl rfl rfl rfl ?_
 rw [Tryd.ntmps45]
 refine tri_sr ?_
 refine s_mv (.inr rfl) (v := .nils) rfl rfl rfl rfl ?_
 refine rt_nil ?_
 refine tri_sr ?_
 refine s_buildSlice (rows' := List.map intV ([] : List Int)) rfl rfl rfl sl76 zc3 rfl rfl rfl rfl rfl rfl rfl rfl rfl ?_
 refine m2 ?_
 refine rt_nil ?_
 refine tri_seq ?_
 refine tri_sr ?_
 refine s_mv (.inr rfl) (v := .sc (.int .i64 0)) rfl rfl rfl rfl ?_
 refine rt_nil ?_
 refine tri_block ?_
 refine tri_lstM 0 rfl (fun hl0 => ?_)
 refine tri_loop (ι := { p : (List Rec) × (List Int) × Nat // p0.drop p.2.2 = p.1 ∧ s_Addrs_l0 p1 p.1 p.2.1 p.2.2 = some r0 }) (fun p => inv_s_Addrs_0 p0 p1 p.1.2.1 p.1.2.2) (fun p => p.1.1.length) ⟨(p0, ([] : List Int), 0), rfl, h⟩ ?_ ?_
 ·skip
  refine entX [((2005, 0), ⟨3, 1, List.map intV ([] : List Int), false, true⟩, some (7, 0))] [] ⟨⟨rfl, _, rfl, rfl, rfl, rfl, id, rowsCv_eq rfl (allFree_map intV_free), rowsZ_map intV_len⟩, trivial⟩ trivial rfl rfl ?_
  exact ⟨(.free rfl), (.free rfl), (.ref rfl), (.free rfl), trivial⟩
 ·rintro ⟨⟨lrs0, v0_0, v0_1⟩, hd0, h⟩
  replace hd0 : p0.drop v0_1 = lrs0 := hd0
  replace h : s_Addrs_l0 p1 lrs0 v0_0 v0_1 = some r0 := h
  show Tri _ _ _ (inv_s_Addrs_0 p0 p1 v0_0 v0_1)
  refine tri_seq ?_
  refine tri_sr ?_
  refine m1 ?_
  refine m1 ?_
  refine s_lenL rfl sl24 rfl rfl rfl rfl ?_
  refine s_of (st_lss rfl rfl rfl) rfl rfl rfl rfl ?_
  refine rt_nil ?_
  refine tri_cond rfl (fun c1 => ?_) (fun c1 => ?_)
  ·refine drop_elim hd0 c1 fun e0 rs0 he hx0 hn0 => ?_
   subst he
   rw [s_Addrs_l0] at h
   refine tri_skip ?_
   refine tri_seq ?_
   refine tri_block ?_
   refine tri_cutI (ι := { p : Bool // s_Addrs_j1 v0_0 v0_1 e0 (s_Addrs_l0 p1 rs0) p = some r0 }) (fun p => inv_s_Addrs_1 p0 p1 v0_0 v0_1 p.1) ?_ ?_
   ·skip
    refine tri_region ?_
    refine m1 ?_
    refine m1 ?_
    refine s_indexF (i := v0_1) rfl rfl rfl sl24 (get_ltM hx0) rfl rfl rfl ?_
    refine s_fieldAddrF rfl rfl fd39_1 rfl rfl rfl rfl ?_
    refine s_loadF rfl rfl (rowG hx0) ty3 rfl (.inr rfl) (by conv => lhs; whnf) rfl rfl rfl ?_
    refine s_of (st_eqI rfl rfl rfl) rfl rfl rfl rfl ?_
    refine m1 ?_
    refine s_split (t := 20) rfl (fun b2 => ?_) (fun b2 => ?_)
    ·replace h := cond_t h b2
     refine m1 ?_
     refine m1 ?_
     refine s_indexF (i := v0_1) rfl rfl rfl sl24 (get_ltM hx0) rfl rfl rfl ?_
     refine s_fieldAddrF rfl rfl fd39_0 rfl rfl rfl rfl ?_
     refine s_loadF rfl rfl (rowG hx0) ty9 rfl (.inr rfl) (by conv => lhs; whnf) rfl rfl rfl ?_
     refine m1 ?_
     refine s_of (st_eqS rfl rfl rfl) rfl rfl rfl rfl ?_
     refine s_pickT rfl rfl (by conv => lhs; whnf) rfl rfl rfl ?_
     refine m1 ?_
     refine s_split (t := 29) rfl (fun b3 => ?_) (fun b3 => ?_)
     ·replace h := cond_t h b3
      refine m1 ?_
      refine m1 ?_
      refine m1 ?_
      refine s_indexF (i := v0_1) rfl rfl rfl sl24 (get_ltM hx0) rfl rfl rfl ?_
      refine s_fieldAddrF rfl rfl fd39_3 rfl rfl rfl rfl ?_
      refine s_loadF rfl rfl (rowG hx0) ty3 rfl (.inr rfl) (by conv => lhs; whnf) rfl rfl rfl ?_
      refine bnd1_elim h fun x4 q5 h => ?_
      refine s_callN (kb := [(2005, 0)]) (ns := []) (v := .sc (.bool x4)) rfl rfl cl123 (ws_l9HasInt v0_0 e0.n x4 q5) rfl (.cons (lendL rfl (.head _) rfl intV_free intV_len) (.cons (.free rfl) .nil)) trivial memNil .nil (fun _ _ => List.not_mem_nil) rfl trivial memNil rfl rfl rfl rfl rfl rfl ?_
      refine s_of (st_not rfl rfl) rfl rfl rfl rfl ?_
      refine s_pickT rfl rfl (by conv => lhs; whnf) rfl rfl rfl ?_
      refine rt_nil ?_
      refine Exists.intro ⟨!x4, h⟩ ?_
      refine entX [((2005, 0), ⟨3, 1, List.map intV v0_0, false, true⟩, some (2005, 0))] [] ⟨⟨rfl, _, rfl, rfl, rfl, rfl, id, rowsCv_eq rfl (allFree_map intV_free), rowsZ_map intV_len⟩, trivial⟩ trivial rfl rfl ?_
      exact ⟨(.free rfl), (.free rfl), (.ref rfl), (.free rfl), (.free rfl), trivial⟩
     ·replace h := cond_f h b3
      refine s_skip rfl rfl rfl ?_
      refine s_skip rfl rfl rfl ?_
      refine s_skip rfl rfl rfl ?_
      refine s_skip rfl rfl rfl ?_
      refine s_skip rfl rfl rfl ?_
      refine s_skip rfl rfl rfl ?_
      refine s_skip rfl rfl rfl ?_
      refine s_skip rfl rfl rfl ?_
      refine s_pickF rfl rfl (v := .sc (.bool false)) rfl rfl rfl rfl ?_
      refine rt_nil ?_
      refine Exists.intro ⟨false, h⟩ ?_
      refine entX [((2005, 0), ⟨3, 1, List.map intV v0_0, false, true⟩, some (2005, 0))] [] ⟨⟨rfl, _, rfl, rfl, rfl, rfl, id, rowsCv_eq rfl (allFree_map intV_free), rowsZ_map intV_len⟩, trivial⟩ trivial rfl rfl ?_
      exact ⟨(.free rfl), (.free rfl), (.ref rfl), (.free rfl), (.free rfl), trivial⟩
    ·replace h := cond_f h b2
     refine s_skip rfl rfl rfl ?_
     refine s_skip rfl rfl rfl ?_
     refine s_skip rfl rfl rfl ?_
     refine s_skip rfl rfl rfl ?_
     refine s_skip rfl rfl rfl ?_
     refine s_skip rfl rfl rfl ?_
     refine s_skip rfl rfl rfl ?_
     refine s_pickF rfl rfl (v := .sc (.bool false)) rfl rfl rfl rfl ?_
     refine m1 ?_
     refine s_skip rfl rfl rfl ?_
     refine s_skip rfl rfl rfl ?_
     refine s_skip rfl rfl rfl ?_
     refine s_skip rfl rfl rfl ?_
     refine s_skip rfl rfl rfl ?_
     refine s_skip rfl rfl rfl ?_
     refine s_skip rfl rfl rfl ?_
     refine s_skip rfl rfl rfl ?_
     refine s_pickF rfl rfl (v := .sc (.bool false)) rfl rfl rfl rfl ?_
     refine rt_nil ?_
     refine Exists.intro ⟨false, h⟩ ?_
     refine entX [((2005, 0), ⟨3, 1, List.map intV v0_0, false, true⟩, some (2005, 0))] [] ⟨⟨rfl, _, rfl, rfl, rfl, rfl, id, rowsCv_eq rfl (allFree_map intV_free), rowsZ_map intV_len⟩, trivial⟩ trivial rfl rfl ?_
     exact ⟨(.free rfl), (.free rfl), (.ref rfl), (.free rfl), (.free rfl), trivial⟩
   ·rintro ⟨j1_0, h⟩
    replace h : s_Addrs_j1 v0_0 v0_1 e0 (s_Addrs_l0 p1 rs0) j1_0 = some r0 := h
    unfold s_Addrs_j1 at h
    show Tri _ _ _ (inv_s_Addrs_1 p0 p1 v0_0 v0_1 j1_0)
    refine tri_cond rfl (fun c2 => ?_) (fun c2 => ?_)
    ·replace h := cond_t h c2
     refine tri_region ?_
     refine m1 ?_
     refine m1 ?_
     refine m1 ?_
     refine s_indexF (i := v0_1) rfl rfl rfl sl24 (get_ltM hx0) rfl rfl rfl ?_
     refine s_fieldAddrF rfl rfl fd39_3 rfl rfl rfl rfl ?_
     refine s_loadF rfl rfl (rowG hx0) ty3 rfl (.inr rfl) (by conv => lhs; whnf) rfl rfl rfl ?_
     refine s_buildSlice (rows' := List.map intV [e0.n]) rfl rfl rfl sl76 zc3 rfl rfl rfl rfl rfl rfl rfl rfl rfl ?_
     refine grd_elim h fun g3 h => ?_
     refine s_appL rfl rfl rfl sl76 zc3 rfl rfl rfl rfl rfl rfl (src_refL rfl rfl) g3 rfl rfl ?_
     refine m2 ?_
     refine rt_nil ?_
     refine tri_region ?_
     refine m1 ?_
     refine s_inc (a := v0_1) (b := 1) rfl rfl rfl rfl (by have := get_lt hx0; have := hl0; omega) rfl rfl rfl ?_
     refine m2 ?_
     refine rt_nil ?_
     refine Exists.intro ⟨(rs0, v0_0 ++ [e0.n], (v0_1 + 1)), hn0, h⟩ (And.intro (Nat.lt_succ_self _) ?_)
     refine entX [((2005, 0), ⟨3, 1, List.map intV (v0_0 ++ [e0.n]), false, true⟩, some (46, 0))] [] ⟨⟨rfl, _, rfl, rfl, rfl, rfl, id, rowsCv_eq rfl (allFree_map intV_free), rowsZ_map intV_len⟩, trivial⟩ trivial rfl rfl ?_
     exact ⟨(.free rfl), (.free rfl), (.ref rfl), (.free rfl), trivial⟩
    ·replace h := cond_f h c2
     refine tri_skip ?_
     refine tri_region ?_
     refine m1 ?_
     refine s_inc (a := v0_1) (b := 1) rfl rfl rfl rfl (by have := get_lt hx0; have := hl0; omega) rfl rfl rfl ?_
     refine m2 ?_
     refine rt_nil ?_
     refine Exists.intro ⟨(rs0, v0_0, (v0_1 + 1)), hn0, h⟩ (And.intro (Nat.lt_succ_self _) ?_)
     refine entX [((2005, 0), ⟨3, 1, List.map intV v0_0, false, true⟩, some (2005, 0))] [] ⟨⟨rfl, _, rfl, rfl, rfl, rfl, id, rowsCv_eq rfl (allFree_map intV_free), rowsZ_map intV_len⟩, trivial⟩ trivial rfl rfl ?_
     exact ⟨(.free rfl), (.free rfl), (.ref rfl), (.free rfl), trivial⟩
  ·have he := drop_f hd0 c1; subst he
   rw [s_Addrs_l0] at h
   refine tri_exit ?_
   refine tri_sr ?_
   refine m1 ?_
   refine m2 ?_
   refine rt_nil ?_
   refine tri_ret ?_
   have e0 := (some1 h); subst e0
   exact endY (v' := .ref (2000, 0) 0 v0_0.length) [((2000, 0), ⟨3, 1, List.map intV v0_0, false, true⟩, some (2005, 0))] [] (rvC (resTmp rfl) rvN) ⟨⟨rfl, _, rfl, rfl, rfl, rfl, id, rowsCv_eq rfl (allFree_map intV_free), rowsZ_map intV_len⟩, trivial⟩ trivial rfl rfl (by kernel_rfl) (by simp only [V.mat, V.mat1, V.mat0, matL, matT, List.length_map] <;> rfl) (.ref rfl)

/- laws.sameInts -/
def inv_w_sameInts_0 (p0 : List Int) (p1 : List Int) (v0_0 : Nat) : St := mkT 26 [(0, .lst 1 (List.map intV p0)), (1, .lst 1 (List.map intV p1)), (5, .sc (.int .i64 (v0_0 : Int)))] []
set_option maxRecDepth 4000 in
set_option maxHeartbeats 800000 in
theorem ww_sameInts (p0 : List Int) (p1 : List Int) (r0 : Bool) (h : w_sameInts p0 p1 = some r0) : Runs Tryd.prog 43 [.lst 1 (List.map intV p0), .lst 1 (List.map intV p1)] [] (.sc (.bool r0)) [] := by
 unfold w_sameInts at h
 refine runsR [.tmp 4] Tryd.func43 rfl rfl rfl rfl ?_
 rw [Tryd.ntmps43]
 refine tri_sr ?_
 refine s_mv (.inr rfl) (v := .sc (.bool false)) rfl rfl rfl rfl ?_
 refine rt_nil ?_
 refine tri_seq ?_
 refine tri_sr ?_
 refine m1 ?_
 refine s_lenL rfl sl76 rfl rfl rfl rfl ?_
 refine m1 ?_
 refine s_lenL rfl sl76 rfl rfl rfl rfl ?_
 refine s_of (st_neI rfl rfl rfl) rfl rfl rfl rfl ?_
 refine rt_nil ?_
 refine tri_cond rfl (fun c1 => ?_) (fun c1 => ?_)
 ·replace h := cond_t h c1
  refine tri_sr ?_
  refine s_mv (.inr rfl) (v := .sc (.bool false)) rfl rfl rfl rfl ?_
  refine rt_nil ?_
  refine tri_ret ?_
  have e0 := (some1 h); subst e0
  exact endY [] [] (rvC (resTmp rfl) rvN) trivial trivial rfl rfl rfl rfl (.free rfl)
 ·replace h := cond_f h c1
  refine tri_skip ?_
  refine tri_seq ?_
  refine tri_sr ?_
  refine s_mv (.inr rfl) (v := .sc (.int .i64 0)) rfl rfl rfl rfl ?_
  refine rt_nil ?_
  refine tri_block ?_
  refine tri_lstM 0 rfl (fun hl0 => ?_)
  refine tri_loop (ι := { p : (List Int) × Nat // p0.drop p.2 = p.1 ∧ w_sameInts_l0 p1 p.1 p.2 = some r0 }) (fun p => inv_w_sameInts_0 p0 p1 p.1.2) (fun p => p.1.1.length) ⟨(p0, 0), rfl, h⟩ ?_ ?_
  ·skip
   refine entX [] [] trivial trivial rfl rfl ?_
   exact ⟨(.free rfl), (.free rfl), (.free rfl), trivial⟩
  ·rintro ⟨⟨lrs0, v0_0⟩, hd0, h⟩
   replace hd0 : p0.drop v0_0 = lrs0 := hd0
   replace h : w_sameInts_l0 p1 lrs0 v0_0 = some r0 := h
   show Tri _ _ _ (inv_w_sameInts_0 p0 p1 v0_0)
   refine tri_seq ?_
   refine tri_sr ?_
   refine m1 ?_
   refine m1 ?_
   refine s_lenL rfl sl76 rfl rfl rfl rfl ?_
   refine s_of (st_lss rfl rfl rfl) rfl rfl rfl rfl ?_
   refine rt_nil ?_
   refine tri_cond rfl (fun c2 => ?_) (fun c2 => ?_)
   ·refine drop_elim hd0 c2 fun e0 rs0 he hx0 hn0 => ?_
    subst he
    rw [w_sameInts_l0] at h
    refine tri_skip ?_
    refine tri_seq ?_
    refine tri_block ?_
    refine tri_seq ?_
    refine tri_draw mixed ?_
    refine m1 ?_
    refine m1 ?_
    refine s_indexF (i := v0_0) rfl rfl rfl sl76 (get_ltM hx0) rfl rfl rfl ?_
    refine s_loadF rfl rfl (rowG hx0) ty3 rfl (.inr rfl) (by conv => lhs; whnf) rfl rfl rfl ?_
    refine m1 ?_
    refine m1 ?_
    refine bnd1_elim h fun x3 q4 h => ?_
    have q4a := (idx_some q4).1; have q4b := (idx_some q4).2
    refine s_indexFZ rfl rfl rfl sl76 q4a (get_ltM q4b) rfl rfl rfl ?_
    refine s_loadF rfl rfl (rowG q4b) ty3 rfl (.inr rfl) (by conv => lhs; whnf) rfl rfl rfl ?_
    refine s_of (st_neI rfl rfl rfl) rfl rfl rfl rfl ?_
    refine rt_nil ⟨by kernel_rfl, ?_⟩
    refine tri_cond rfl (fun c5 => ?_) (fun c5 => ?_)
    ·replace h := cond_t h c5
     refine tri_sr ?_
     refine s_mv (.inr rfl) (v := .sc (.bool false)) rfl rfl rfl rfl ?_
     refine rt_nil ?_
     refine tri_ret ?_
     have e0 := (some1 h); subst e0
     exact endY [] [] (rvC (resTmp rfl) rvN) trivial trivial rfl rfl rfl rfl (.free rfl)
    ·replace h := cond_f h c5
     refine tri_skip ?_
     refine tri_region ?_
     refine m1 ?_
     refine s_inc (a := v0_0) (b := 1) rfl rfl rfl rfl (by have := get_lt hx0; have := hl0; omega) rfl rfl rfl ?_
     refine m2 ?_
     refine rt_nil ?_
     refine Exists.intro ⟨(rs0, (v0_0 + 1)), hn0, h⟩ (And.intro (Nat.lt_succ_self _) ?_)
     refine entX [] [] trivial trivial rfl rfl ?_
     exact ⟨(.free rfl), (.free rfl), (.free rfl), trivial⟩
   ·have he := drop_f hd0 c2; subst he
    rw [w_sameInts_l0] at h
    refine tri_exit ?_
    refine tri_sr ?_
    refine s_mv (.inr rfl) (v := .sc (.bool true)) rfl rfl rfl rfl ?_
    refine rt_nil ?_
    refine tri_ret ?_
    have e0 := (some1 h); subst e0
    exact endY [] [] (rvC (resTmp rfl) rvN) trivial trivial rfl rfl rfl rfl (.free rfl)

/- impl.Record] -/
def inv_slices_insertionSortCmpFunc_Record_2 (p1 : Int) (p2 : Int) (fi3 : FuncId) (cp3 : List V) (v0_1 : Int) (v1_0 : List Rec) (v1_1 : Int) (j2_0 : Bool) : St := mkT 53 [(0, .ref (1000, 0) 0 v1_0.length), (1, .sc (.int .i64 p1)), (2, .sc (.int .i64 p2)), (3, .fn fi3 cp3), (8, .sc (.int .i64 v0_1)), (9, .sc (.int .i64 v1_1)), (34, .sc (.bool j2_0))] [((1000, 0), some ⟨39, 6, List.map recV v1_0, false, false⟩)]
def inv_slices_insertionSortCmpFunc_Record_1 (p1 : Int) (p2 : Int) (fi3 : FuncId) (cp3 : List V) (v0_1 : Int) (v1_0 : List Rec) (v1_1 : Int) : St := mkT 53 [(0, .ref (1000, 0) 0 v1_0.length), (1, .sc (.int .i64 p1)), (2, .sc (.int .i64 p2)), (3, .fn fi3 cp3), (8, .sc (.int .i64 v0_1)), (9, .sc (.int .i64 v1_1))] [((1000, 0), some ⟨39, 6, List.map recV v1_0, false, false⟩)]
def inv_slices_insertionSortCmpFunc_Record_0 (p1 : Int) (p2 : Int) (fi3 : FuncId) (cp3 : List V) (v0_0 : List Rec) (v0_1 : Int) : St := mkT 53 [(0, .ref (1000, 0) 0 v0_0.length), (1, .sc (.int .i64 p1)), (2, .sc (.int .i64 p2)), (3, .fn fi3 cp3), (8, .sc (.int .i64 v0_1))] [((1000, 0), some ⟨39, 6, List.map recV v0_0, false, false⟩)]
set_option maxRecDepth 4000 in
set_option maxHeartbeats 800000 in
theorem wslices_insertionSortCmpFunc_Record (p0 : List Rec) (p1 : Int) (p2 : Int) (fi3 : FuncId) (cp3 : List V) (hf3 : cp3.all (·.free) = true) (hb3 : callable Tryd.prog fi3 = true) (p3 : Rec → Rec → Option Int) (hg3 : ∀ (z0 : Rec) (z1 : Rec) v, p3 z0 z1 = some v → Runs Tryd.prog fi3 ([.agg (recV z0), .agg (recV z1)] ++ cp3) [] (.sc (.int .i64 v)) []) (r0 : List Rec) (h : slices_insertionSortCmpFunc_Record p0 p1 p2 p3 = some r0) : Runs Tryd.prog 196 [.ref (1000, 0) 0 p0.length, .sc (.int .i64 p1), .sc (.int .i64 p2), .fn fi3 cp3] [⟨39, 6, List.map recV p0, false, false⟩] (.tup []) [⟨39, 6, List.map recV r0, false, false⟩] := by
 unfold slices_insertionSortCmpFunc_Record at h
 refine runsR [] Tryd.func196 rfl rfl rfl rfl ?_
 rw [Tryd.ntmps196]
 refine tri_sr ?_
 refine m1 ?_
 refine grd_elim h fun g1 h => ?_
 refine s_addI rfl rfl rfl rfl g1 rfl rfl rfl ?_
 refine m2 ?_
 refine rt_nil ?_
 refine tri_block ?_
 refine tri_loop (ι := { p : Nat × (List Rec) × Int // slices_insertionSortCmpFunc_Record_l0 p1 p2 p3 p.1 p.2.1 p.2.2 = some r0 }) (fun p => inv_slices_insertionSortCmpFunc_Record_0 p1 p2 fi3 cp3 p.1.2.1 p.1.2.2) (fun p => p.1.1) ⟨(fuel0, p0, p1 + 1), h⟩ ?_ ?_
 ·skip
  refine entX [((1000, 0), ⟨39, 6, List.map recV p0, false, false⟩, some (1000, 0))] [] ⟨⟨rfl, _, rfl, rfl, rfl, rfl, id, rowsCv_eq rfl (allFree_map recV_free), rowsZ_map recV_len⟩, trivial⟩ trivial rfl rfl ?_
  exact ⟨(.ref rfl), (.free rfl), (.free rfl), (cvFn hf3), (.free rfl), trivial⟩
 ·rintro ⟨⟨f0, v0_0, v0_1⟩, h⟩
  replace h : slices_insertionSortCmpFunc_Record_l0 p1 p2 p3 f0 v0_0 v0_1 = some r0 := h
  cases f0 with
  | zero => cases h
  | succ f0 =>
  rw [slices_insertionSortCmpFunc_Record_l0] at h
  show Tri _ _ _ (inv_slices_insertionSortCmpFunc_Record_0 p1 p2 fi3 cp3 v0_0 v0_1)
  refine tri_seq ?_
  refine tri_sr ?_
  refine m1 ?_
  refine m1 ?_
  refine s_of (st_lss rfl rfl rfl) rfl rfl rfl rfl ?_
  refine rt_nil ?_
  refine tri_cond rfl (fun c2 => ?_) (fun c2 => ?_)
  ·replace h := cond_t h c2
   refine tri_skip ?_
   refine tri_seq ?_
   refine tri_block ?_
   refine tri_sr ?_
   refine m1 ?_
   refine m2 ?_
   refine rt_nil ?_
   refine tri_block ?_
   refine tri_loop (ι := { p : Nat × (List Rec) × Int // slices_insertionSortCmpFunc_Record_l1 p1 p3 v0_1 (slices_insertionSortCmpFunc_Record_l0 p1 p2 p3 f0) p.1 p.2.1 p.2.2 = some r0 }) (fun p => inv_slices_insertionSortCmpFunc_Record_1 p1 p2 fi3 cp3 v0_1 p.1.2.1 p.1.2.2) (fun p => p.1.1) ⟨(fuel0, v0_0, v0_1), h⟩ ?_ ?_
   ·skip
    refine entX [((1000, 0), ⟨39, 6, List.map recV v0_0, false, false⟩, some (1000, 0))] [] ⟨⟨rfl, _, rfl, rfl, rfl, rfl, id, rowsCv_eq rfl (allFree_map recV_free), rowsZ_map recV_len⟩, trivial⟩ trivial rfl rfl ?_
    exact ⟨(.ref rfl), (.free rfl), (.free rfl), (cvFn hf3), (.free rfl), (.free rfl), trivial⟩
   ·rintro ⟨⟨f1, v1_0, v1_1⟩, h⟩
    replace h : slices_insertionSortCmpFunc_Record_l1 p1 p3 v0_1 (slices_insertionSortCmpFunc_Record_l0 p1 p2 p3 f0) f1 v1_0 v1_1 = some r0 := h
    cases f1 with
    | zero => cases h
    | succ f1 =>
    rw [slices_insertionSortCmpFunc_Record_l1] at h
    show Tri _ _ _ (inv_slices_insertionSortCmpFunc_Record_1 p1 p2 fi3 cp3 v0_1 v1_0 v1_1)
    refine tri_seq ?_
    refine tri_cutI (ι := { p : Bool // slices_insertionSortCmpFunc_Record_j2 v0_1 v1_0 v1_1 (slices_insertionSortCmpFunc_Record_l0 p1 p2 p3 f0) (slices_insertionSortCmpFunc_Record_l1 p1 p3 v0_1 (slices_insertionSortCmpFunc_Record_l0 p1 p2 p3 f0) f1) p = some r0 }) (fun p => inv_slices_insertionSortCmpFunc_Record_2 p1 p2 fi3 cp3 v0_1 v1_0 v1_1 p.1) ?_ ?_
    ·skip
     refine tri_draw mixed ?_
     refine m1 ?_
     refine m1 ?_
     refine s_of (st_gtr rfl rfl rfl) rfl rfl rfl rfl ?_
     refine m1 ?_
     refine s_split (t := 21) rfl (fun b3 => ?_) (fun b3 => ?_)
     ·replace h := cond_t h b3
      refine m1 ?_
      refine m1 ?_
      refine m1 ?_
      refine bnd1_elim h fun x4 q5 h => ?_
      have q5a := (idx_some q5).1; have q5b := (idx_some q5).2
      refine s_indexZ rfl rfl rfl rfl sl24 rfl q5a (get_lt q5b) rfl rfl rfl ?_
      refine s_loadR rfl rfl rfl (rowG q5b) ty39 rfl rfl rfl ?_
      refine m1 ?_
      refine m1 ?_
      refine grd_elim h fun g6 h => ?_
      refine s_subI rfl rfl rfl rfl g6 rfl rfl rfl ?_
      refine bnd1_elim h fun x7 q8 h => ?_
      have q8a := (idx_some q8).1; have q8b := (idx_some q8).2
      refine s_indexZ rfl rfl rfl rfl sl24 rfl q8a (get_lt q8b) rfl rfl rfl ?_
      refine s_loadR rfl rfl rfl (rowG q8b) ty39 rfl rfl rfl ?_
      refine bnd1_elim h fun x9 q10 h => ?_
      refine s_callN (kb := []) (ns := []) (v := .sc (.int .i64 x9)) rfl rfl hb3 (hg3 x4 x7 x9 q10) rfl (.cons (relAgg rfl) (.cons (relAgg rfl) (argsFree hf3))) trivial memNil .nil memNil rfl trivial memNil rfl rfl rfl rfl rfl rfl ?_
      refine s_of (st_lss rfl rfl rfl) rfl rfl rfl rfl ?_
      refine s_pickT rfl rfl (by conv => lhs; whnf) rfl rfl rfl ?_
      refine rt_nil ⟨by kernel_rfl, ?_⟩
      refine Exists.intro ⟨decide (x9 < 0), h⟩ ?_
      refine entX [((1000, 0), ⟨39, 6, List.map recV v1_0, false, false⟩, some (1000, 0))] [] ⟨⟨rfl, _, rfl, rfl, rfl, rfl, id, rowsCv_eq rfl (allFree_map recV_free), rowsZ_map recV_len⟩, trivial⟩ trivial rfl rfl ?_
      exact ⟨(.ref rfl), (.free rfl), (.free rfl), (cvFn hf3), (.free rfl), (.free rfl), (.free rfl), trivial⟩
     ·replace h := cond_f h b3
      refine s_skip rfl rfl rfl ?_
      refine s_skip rfl rfl rfl ?_
      refine s_skip rfl rfl rfl ?_
      refine s_skip rfl rfl rfl ?_
      refine s_skip rfl rfl rfl ?_
      refine s_skip rfl rfl rfl ?_
      refine s_skip rfl rfl rfl ?_
      refine s_skip rfl rfl rfl ?_
      refine s_skip rfl rfl rfl ?_
      refine s_skip rfl rfl rfl ?_
      refine s_skip rfl rfl rfl ?_
      refine s_skip rfl rfl rfl ?_
      refine s_pickF rfl rfl (v := .sc (.bool false)) rfl rfl rfl rfl ?_
      refine rt_nil ⟨by kernel_rfl, ?_⟩
      refine Exists.intro ⟨false, h⟩ ?_
      refine entX [((1000, 0), ⟨39, 6, List.map recV v1_0, false, false⟩, some (1000, 0))] [] ⟨⟨rfl, _, rfl, rfl, rfl, rfl, id, rowsCv_eq rfl (allFree_map recV_free), rowsZ_map recV_len⟩, trivial⟩ trivial rfl rfl ?_
      exact ⟨(.ref rfl), (.free rfl), (.free rfl), (cvFn hf3), (.free rfl), (.free rfl), (.free rfl), trivial⟩
    ·rintro ⟨j2_0, h⟩
     replace h : slices_insertionSortCmpFunc_Record_j2 v0_1 v1_0 v1_1 (slices_insertionSortCmpFunc_Record_l0 p1 p2 p3 f0) (slices_insertionSortCmpFunc_Record_l1 p1 p3 v0_1 (slices_insertionSortCmpFunc_Record_l0 p1 p2 p3 f0) f1) j2_0 = some r0 := h
     unfold slices_insertionSortCmpFunc_Record_j2 at h
     show Tri _ _ _ (inv_slices_insertionSortCmpFunc_Record_2 p1 p2 fi3 cp3 v0_1 v1_0 v1_1 j2_0)
     refine tri_cond rfl (fun c3 => ?_) (fun c3 => ?_)
     ·replace h := cond_t h c3
      refine tri_skip ?_
      refine tri_seq ?_
      refine tri_block ?_
      refine tri_draw mixed ?_
      refine m1 ?_
      refine m1 ?_
      refine m1 ?_
      refine m1 ?_
      refine grd_elim h fun g4 h => ?_
      refine s_subI rfl rfl rfl rfl g4 rfl rfl rfl ?_
      refine m1 ?_
      refine m1 ?_
      refine grd_elim h fun g5 h => ?_
      refine s_subI rfl rfl rfl rfl g5 rfl rfl rfl ?_
      refine bnd1_elim h fun x6 q7 h => ?_
      have q7a := (idx_some q7).1; have q7b := (idx_some q7).2
      refine s_indexZ rfl rfl rfl rfl sl24 rfl q7a (get_lt q7b) rfl rfl rfl ?_
      refine s_loadR rfl rfl rfl (rowG q7b) ty39 rfl rfl rfl ?_
      refine m1 ?_
      refine m1 ?_
      refine bnd1_elim h fun x8 q9 h => ?_
      have q9a := (idx_some q9).1; have q9b := (idx_some q9).2
      refine s_indexZ rfl rfl rfl rfl sl24 rfl q9a (get_lt q9b) rfl rfl rfl ?_
      refine s_loadR rfl rfl rfl (rowG q9b) ty39 rfl rfl rfl ?_
      refine s_indexZ rfl rfl rfl rfl sl24 rfl q9a (get_lt q9b) rfl rfl rfl ?_
      refine s_storeL (x' := x6) rfl rfl rfl q9b ty39 rfl rfl rfl rfl rfl rfl ?_
      refine bnd1_elim h fun x10 q11 h => ?_
      have q11a := (idx_some q11).1; have q11b := (idx_some q11).2
      refine s_indexZ rfl rfl rfl rfl sl24 rfl q11a (by have q := get_lt q11b; simpa only [List.length_set] using q) rfl rfl rfl ?_
      refine s_storeL (x' := x8) rfl rfl rfl q11b ty39 rfl rfl rfl rfl rfl rfl ?_
      refine rt_nil ⟨by kernel_rfl, ?_⟩
      refine tri_region ?_
      refine m1 ?_
      refine grd_elim h fun g12 h => ?_
      refine s_subI rfl rfl rfl rfl g12 rfl rfl rfl ?_
      refine m2 ?_
      refine rt_nil ?_
      refine Exists.intro ⟨(f1, (v1_0.set v1_1.toNat x6).set ((v1_1 - 1).toNat) x8, v1_1 - 1), h⟩ (And.intro (Nat.lt_succ_self _) ?_)
      refine entX [((1000, 0), ⟨39, 6, List.map recV ((v1_0.set v1_1.toNat x6).set ((v1_1 - 1).toNat) x8), false, false⟩, some (1000, 0))] [] ⟨⟨rfl, _, rfl, rfl, rfl, rfl, id, rowsCv_eq rfl (allFree_map recV_free), rowsZ_map recV_len⟩, trivial⟩ trivial rfl rfl ?_
      exact ⟨(cvRefLen rfl (by simp only [List.length_set])), (.free rfl), (.free rfl), (cvFn hf3), (.free rfl), (.free rfl), trivial⟩
     ·replace h := cond_f h c3
      refine tri_exit ?_
      refine tri_region ?_
      refine m1 ?_
      refine grd_elim h fun g13 h => ?_
      refine s_addI rfl rfl rfl rfl g13 rfl rfl rfl ?_
      refine m2 ?_
      refine rt_nil ?_
      refine Exists.intro ⟨(f0, v1_0, v0_1 + 1), h⟩ (And.intro (Nat.lt_succ_self _) ?_)
      refine entX [((1000, 0), ⟨39, 6, List.map recV v1_0, false, false⟩, some (1000, 0))] [] ⟨⟨rfl, _, rfl, rfl, rfl, rfl, id, rowsCv_eq rfl (allFree_map recV_free), rowsZ_map recV_len⟩, trivial⟩ trivial rfl rfl ?_
      exact ⟨(.ref rfl), (.free rfl), (.free rfl), (cvFn hf3), (.free rfl), trivial⟩
  ·replace h := cond_f h c2
   refine tri_exit ?_
   have e0 := (some1 h); subst e0
   exact endY [((1000, 0), ⟨39, 6, List.map recV v0_0, false, false⟩, some (1000, 0))] [] rvN ⟨⟨rfl, _, rfl, rfl, rfl, rfl, id, rowsCv_eq rfl (allFree_map recV_free), rowsZ_map recV_len⟩, trivial⟩ trivial rfl rfl (by kernel_rfl) rfl (CvL.tup .nil)

/- impl.Record] -/
def inv_slices_swapRangeCmpFunc_Record_0 (p1 : Int) (p2 : Int) (p3 : Int) (v0_0 : List Rec) (v0_1 : Int) : St := mkT 38 [(0, .ref (1000, 0) 0 v0_0.length), (1, .sc (.int .i64 p1)), (2, .sc (.int .i64 p2)), (3, .sc (.int .i64 p3)), (10, .sc (.int .i64 v0_1))] [((1000, 0), some ⟨39, 6, List.map recV v0_0, false, false⟩)]
set_option maxRecDepth 4000 in
set_option maxHeartbeats 800000 in
theorem wslices_swapRangeCmpFunc_Record (p0 : List Rec) (p1 : Int) (p2 : Int) (p3 : Int) (fi4 : FuncId) (cp4 : List V) (hf4 : cp4.all (·.free) = true) (hb4 : callable Tryd.prog fi4 = true) (p4 : Rec → Rec → Option Int) (hg4 : ∀ (z0 : Rec) (z1 : Rec) v, p4 z0 z1 = some v → Runs Tryd.prog fi4 ([.agg (recV z0), .agg (recV z1)] ++ cp4) [] (.sc (.int .i64 v)) []) (r0 : List Rec) (h : slices_swapRangeCmpFunc_Record p0 p1 p2 p3 p4 = some r0) : Runs Tryd.prog 224 [.ref (1000, 0) 0 p0.length, .sc (.int .i64 p1), .sc (.int .i64 p2), .sc (.int .i64 p3), .fn fi4 cp4] [⟨39, 6, List.map recV p0, false, false⟩] (.tup []) [⟨39, 6, List.map recV r0, false, false⟩] := by
 unfold slices_swapRangeCmpFunc_Record at h
 refine runsR [] Tryd.func224 rfl rfl rfl rfl ?_
 rw [Tryd.ntmps224]
 refine tri_sr ?_
 refine s_mv (.inr rfl) (v := .sc (.int .i64 0)) rfl rfl rfl rfl ?_
 refine rt_nil ?_
 refine tri_block ?_
 refine tri_loop (ι := { p : Nat × (List Rec) × Int // slices_swapRangeCmpFunc_Record_l0 p1 p2 p3 p.1 p.2.1 p.2.2 = some r0 }) (fun p => inv_slices_swapRangeCmpFunc_Record_0 p1 p2 p3 p.1.2.1 p.1.2.2) (fun p => p.1.1) ⟨(fuel0, p0, 0), h⟩ ?_ ?_
 ·skip
  refine entX [((1000, 0), ⟨39, 6, List.map recV p0, false, false⟩, some (1000, 0))] [] ⟨⟨rfl, _, rfl, rfl, rfl, rfl, id, rowsCv_eq rfl (allFree_map recV_free), rowsZ_map recV_len⟩, trivial⟩ trivial rfl rfl ?_
  exact ⟨(.ref rfl), (.free rfl), (.free rfl), (.free rfl), (.free rfl), trivial⟩
 ·rintro ⟨⟨f0, v0_0, v0_1⟩, h⟩
  replace h : slices_swapRangeCmpFunc_Record_l0 p1 p2 p3 f0 v0_0 v0_1 = some r0 := h
  cases f0 with
  | zero => cases h
  | succ f0 =>
  rw [slices_swapRangeCmpFunc_Record_l0] at h
  show Tri _ _ _ (inv_slices_swapRangeCmpFunc_Record_0 p1 p2 p3 v0_0 v0_1)
  refine tri_seq ?_
  refine tri_sr ?_
  refine m1 ?_
  refine m1 ?_
  refine s_of (st_lss rfl rfl rfl) rfl rfl rfl rfl ?_
  refine rt_nil ?_
  refine tri_cond rfl (fun c1 => ?_) (fun c1 => ?_)
  ·replace h := cond_t h c1
   refine tri_skip ?_
   refine tri_seq ?_
   refine tri_block ?_
   refine tri_draw mixed ?_
   refine m1 ?_
   refine m1 ?_
   refine m1 ?_
   refine grd_elim h fun g2 h => ?_
   refine s_addI rfl rfl rfl rfl g2 rfl rfl rfl ?_
   refine m1 ?_
   refine m1 ?_
   refine m1 ?_
   refine grd_elim h fun g3 h => ?_
   refine s_addI rfl rfl rfl rfl g3 rfl rfl rfl ?_
   refine m1 ?_
   refine m1 ?_
   refine m1 ?_
   refine grd_elim h fun g4 h => ?_
   refine s_addI rfl rfl rfl rfl g4 rfl rfl rfl ?_
   refine bnd1_elim h fun x5 q6 h => ?_
   have q6a := (idx_some q6).1; have q6b := (idx_some q6).2
   refine s_indexZ rfl rfl rfl rfl sl24 rfl q6a (get_lt q6b) rfl rfl rfl ?_
   refine s_loadR rfl rfl rfl (rowG q6b) ty39 rfl rfl rfl ?_
   refine m1 ?_
   refine m1 ?_
   refine m1 ?_
   refine grd_elim h fun g7 h => ?_
   refine s_addI rfl rfl rfl rfl g7 rfl rfl rfl ?_
   refine bnd1_elim h fun x8 q9 h => ?_
   have q9a := (idx_some q9).1; have q9b := (idx_some q9).2
   refine s_indexZ rfl rfl rfl rfl sl24 rfl q9a (get_lt q9b) rfl rfl rfl ?_
   refine s_loadR rfl rfl rfl (rowG q9b) ty39 rfl rfl rfl ?_
   refine s_indexZ rfl rfl rfl rfl sl24 rfl q9a (get_lt q9b) rfl rfl rfl ?_
   refine s_storeL (x' := x5) rfl rfl rfl q9b ty39 rfl rfl rfl rfl rfl rfl ?_
   refine bnd1_elim h fun x10 q11 h => ?_
   have q11a := (idx_some q11).1; have q11b := (idx_some q11).2
   refine s_indexZ rfl rfl rfl rfl sl24 rfl q11a (by have q := get_lt q11b; simpa only [List.length_set] using q) rfl rfl rfl ?_
   refine s_storeL (x' := x8) rfl rfl rfl q11b ty39 rfl rfl rfl rfl rfl rfl ?_
   refine rt_nil ⟨by kernel_rfl, ?_⟩
   refine tri_region ?_
   refine m1 ?_
   refine grd_elim h fun g12 h => ?_
   refine s_addI rfl rfl rfl rfl g12 rfl rfl rfl ?_
   refine m2 ?_
   refine rt_nil ?_
   refine Exists.intro ⟨(f0, (v0_0.set ((p1 + v0_1).toNat) x5).set ((p2 + v0_1).toNat) x8, v0_1 + 1), h⟩ (And.intro (Nat.lt_succ_self _) ?_)
   refine entX [((1000, 0), ⟨39, 6, List.map recV ((v0_0.set ((p1 + v0_1).toNat) x5).set ((p2 + v0_1).toNat) x8), false, false⟩, some (1000, 0))] [] ⟨⟨rfl, _, rfl, rfl, rfl, rfl, id, rowsCv_eq rfl (allFree_map recV_free), rowsZ_map recV_len⟩, trivial⟩ trivial rfl rfl ?_
   exact ⟨(cvRefLen rfl (by simp only [List.length_set])), (.free rfl), (.free rfl), (.free rfl), (.free rfl), trivial⟩
  ·replace h := cond_f h c1
   refine tri_exit ?_
   have e0 := (some1 h); subst e0
   exact endY [((1000, 0), ⟨39, 6, List.map recV v0_0, false, false⟩, some (1000, 0))] [] rvN ⟨⟨rfl, _, rfl, rfl, rfl, rfl, id, rowsCv_eq rfl (allFree_map recV_free), rowsZ_map recV_len⟩, trivial⟩ trivial rfl rfl (by kernel_rfl) rfl (CvL.tup .nil)

/- impl.Record] -/
def inv_slices_rotateCmpFunc_Record_1 (p2 : Int) (fi4 : FuncId) (cp4 : List V) (v1_0 : List Rec) (v1_1 : Int) (v1_2 : Int) : St := mkT 58 [(0, .ref (1000, 0) 0 v1_0.length), (2, .sc (.int .i64 p2)), (4, .fn fi4 cp4), (10, .sc (.int .i64 v1_1)), (11, .sc (.int .i64 v1_2))] [((1000, 0), some ⟨39, 6, List.map recV v1_0, false, false⟩)]
def inv_slices_rotateCmpFunc_Record_0 (p2 : Int) (fi4 : FuncId) (cp4 : List V) (j0_0 : List Rec) (j0_1 : Int) : St := mkT 58 [(0, .ref (1000, 0) 0 j0_0.length), (2, .sc (.int .i64 p2)), (4, .fn fi4 cp4), (10, .sc (.int .i64 j0_1))] [((1000, 0), some ⟨39, 6, List.map recV j0_0, false, false⟩)]
set_option maxRecDepth 4000 in
set_option maxHeartbeats 800000 in
theorem wslices_rotateCmpFunc_Record (p0 : List Rec) (p1 : Int) (p2 : Int) (p3 : Int) (fi4 : FuncId) (cp4 : List V) (hf4 : cp4.all (·.free) = true) (hb4 : callable Tryd.prog fi4 = true) (p4 : Rec → Rec → Option Int) (hg4 : ∀ (z0 : Rec) (z1 : Rec) v, p4 z0 z1 = some v → Runs Tryd.prog fi4 ([.agg (recV z0), .agg (recV z1)] ++ cp4) [] (.sc (.int .i64 v)) []) (r0 : List Rec) (h : slices_rotateCmpFunc_Record p0 p1 p2 p3 p4 = some r0) : Runs Tryd.prog 212 [.ref (1000, 0) 0 p0.length, .sc (.int .i64 p1), .sc (.int .i64 p2), .sc (.int .i64 p3), .fn fi4 cp4] [⟨39, 6, List.map recV p0, false, false⟩] (.tup []) [⟨39, 6, List.map recV r0, false, false⟩] := by
 unfold slices_rotateCmpFunc_Record at h
 refine runsR [] Tryd.func212 rfl rfl rfl rfl ?_
 rw [Tryd.ntmps212]
 refine tri_sr ?_
 refine m1 ?_
 refine m1 ?_
 refine grd_elim h fun g1 h => ?_
 refine s_subI rfl rfl rfl rfl g1 rfl rfl rfl ?_
 refine m2 ?_
 refine rt_nil ?_
 refine tri_sr ?_
 refine m1 ?_
 refine m1 ?_
 refine grd_elim h fun g2 h => ?_
 refine s_subI rfl rfl rfl rfl g2 rfl rfl rfl ?_
 refine m2 ?_
 refine rt_nil ?_
 refine tri_cutI (ι := { p : (List Rec) × Int // slices_rotateCmpFunc_Record_j0 p2 p4 p.1 p.2 = some r0 }) (fun p => inv_slices_rotateCmpFunc_Record_0 p2 fi4 cp4 p.1.1 p.1.2) ?_ ?_
 ·skip
  refine tri_block ?_
  refine tri_loop (ι := { p : Nat × (List Rec) × Int × Int // slices_rotateCmpFunc_Record_l1 p2 p4 p.1 p.2.1 p.2.2.1 p.2.2.2 = some r0 }) (fun p => inv_slices_rotateCmpFunc_Record_1 p2 fi4 cp4 p.1.2.1 p.1.2.2.1 p.1.2.2.2) (fun p => p.1.1) ⟨(fuel0, p0, p2 - p1, p3 - p2), h⟩ ?_ ?_
  ·skip
   refine entX [((1000, 0), ⟨39, 6, List.map recV p0, false, false⟩, some (1000, 0))] [] ⟨⟨rfl, _, rfl, rfl, rfl, rfl, id, rowsCv_eq rfl (allFree_map recV_free), rowsZ_map recV_len⟩, trivial⟩ trivial rfl rfl ?_
   exact ⟨(.ref rfl), (.free rfl), (cvFn hf4), (.free rfl), (.free rfl), trivial⟩
  ·rintro ⟨⟨f1, v1_0, v1_1, v1_2⟩, h⟩
   replace h : slices_rotateCmpFunc_Record_l1 p2 p4 f1 v1_0 v1_1 v1_2 = some r0 := h
   cases f1 with
   | zero => cases h
   | succ f1 =>
   rw [slices_rotateCmpFunc_Record_l1] at h
   show Tri _ _ _ (inv_slices_rotateCmpFunc_Record_1 p2 fi4 cp4 v1_0 v1_1 v1_2)
   refine tri_seq ?_
   refine tri_sr ?_
   refine m1 ?_
   refine m1 ?_
   refine s_of (st_neI rfl rfl rfl) rfl rfl rfl rfl ?_
   refine rt_nil ?_
   refine tri_cond rfl (fun c3 => ?_) (fun c3 => ?_)
   ·replace h := cond_t h c3
    refine tri_skip ?_
    refine tri_block ?_
    refine tri_sr ?_
    refine m1 ?_
    refine m1 ?_
    refine s_of (st_gtr rfl rfl rfl) rfl rfl rfl rfl ?_
    refine rt_nil ?_
    refine tri_cond rfl (fun c4 => ?_) (fun c4 => ?_)
    ·replace h := cond_t h c4
     refine tri_sr ?_
     refine m1 ?_
     refine m1 ?_
     refine m1 ?_
     refine grd_elim h fun g5 h => ?_
     refine s_subI rfl rfl rfl rfl g5 rfl rfl rfl ?_
     refine m1 ?_
     refine m1 ?_
     refine m1 ?_
     refine bnd1_elim h fun x6 q7 h => ?_
     refine grd_elim h fun g8 h => ?_
     refine s_callN (kb := []) (ns := [(1000, 0)]) (v := .tup []) rfl rfl cl224 (wslices_swapRangeCmpFunc_Record v1_0 (p2 - v1_1) p2 v1_2 fi4 cp4 hf4 hb4 p4 hg4 x6 q7) rfl (.cons (.refOwn rfl) (.cons (.free rfl) (.cons (.free rfl) (.cons (.free rfl) (.cons (relFn hf4) .nil))))) ⟨⟨_, rfl, rfl⟩, trivial⟩ (memCons (allFree_map recV_free) memNil) (List.nodup_cons.2 ⟨List.not_mem_nil, .nil⟩) memNil rfl trivial (memCons (allSc_map recV_sc) memNil) rfl rfl rfl rfl rfl rfl ?_
     refine rt_nil ?_
     refine tri_region ?_
     refine m1 ?_
     refine m1 ?_
     refine grd_elim h fun g9 h => ?_
     refine s_subI rfl rfl rfl rfl g9 rfl rfl rfl ?_
     refine m2 ?_
     refine rt_nil ?_
     refine Exists.intro ⟨(f1, x6, v1_1 - v1_2, v1_2), h⟩ (And.intro (Nat.lt_succ_self _) ?_)
     refine entX [((1000, 0), ⟨39, 6, List.map recV x6, false, false⟩, some (1000, 0))] [] ⟨⟨rfl, _, rfl, rfl, rfl, rfl, id, rowsCv_eq rfl (allFree_map recV_free), rowsZ_map recV_len⟩, trivial⟩ trivial rfl rfl ?_
     exact ⟨(cvRefLen rfl (by simp only [List.length_set, g8])), (.free rfl), (cvFn hf4), (.free rfl), (.free rfl), trivial⟩
    ·replace h := cond_f h c4
     refine tri_sr ?_
     refine m1 ?_
     refine m1 ?_
     refine m1 ?_
     refine grd_elim h fun g10 h => ?_
     refine s_subI rfl rfl rfl rfl g10 rfl rfl rfl ?_
     refine m1 ?_
     refine m1 ?_
     refine grd_elim h fun g11 h => ?_
     refine s_addI rfl rfl rfl rfl g11 rfl rfl rfl ?_
     refine m1 ?_
     refine grd_elim h fun g12 h => ?_
     refine s_subI rfl rfl rfl rfl g12 rfl rfl rfl ?_
     refine m1 ?_
     refine m1 ?_
     refine bnd1_elim h fun x13 q14 h => ?_
     refine grd_elim h fun g15 h => ?_
     refine s_callN (kb := []) (ns := [(1000, 0)]) (v := .tup []) rfl rfl cl224 (wslices_swapRangeCmpFunc_Record v1_0 (p2 - v1_1) ((p2 + v1_2) - v1_1) v1_1 fi4 cp4 hf4 hb4 p4 hg4 x13 q14) rfl (.cons (.refOwn rfl) (.cons (.free rfl) (.cons (.free rfl) (.cons (.free rfl) (.cons (relFn hf4) .nil))))) ⟨⟨_, rfl, rfl⟩, trivial⟩ (memCons (allFree_map recV_free) memNil) (List.nodup_cons.2 ⟨List.not_mem_nil, .nil⟩) memNil rfl trivial (memCons (allSc_map recV_sc) memNil) rfl rfl rfl rfl rfl rfl ?_
     refine rt_nil ?_
     refine tri_region ?_
     refine m1 ?_
     refine m1 ?_
     refine grd_elim h fun g16 h => ?_
     refine s_subI rfl rfl rfl rfl g16 rfl rfl rfl ?_
     refine m2 ?_
     refine rt_nil ?_
     refine Exists.intro ⟨(f1, x13, v1_1, v1_2 - v1_1), h⟩ (And.intro (Nat.lt_succ_self _) ?_)
     refine entX [((1000, 0), ⟨39, 6, List.map recV x13, false, false⟩, some (1000, 0))] [] ⟨⟨rfl, _, rfl, rfl, rfl, rfl, id, rowsCv_eq rfl (allFree_map recV_free), rowsZ_map recV_len⟩, trivial⟩ trivial rfl rfl ?_
     exact ⟨(cvRefLen rfl (by simp only [List.length_set, g15])), (.free rfl), (cvFn hf4), (.free rfl), (.free rfl), trivial⟩
   ·replace h := cond_f h c3
    refine tri_exit ?_
    refine Exists.intro ⟨(v1_0, v1_1), h⟩ ?_
    refine entX [((1000, 0), ⟨39, 6, List.map recV v1_0, false, false⟩, some (1000, 0))] [] ⟨⟨rfl, _, rfl, rfl, rfl, rfl, id, rowsCv_eq rfl (allFree_map recV_free), rowsZ_map recV_len⟩, trivial⟩ trivial rfl rfl ?_
    exact ⟨(.ref rfl), (.free rfl), (cvFn hf4), (.free rfl), trivial⟩
 ·rintro ⟨⟨j0_0, j0_1⟩, h⟩
  replace h : slices_rotateCmpFunc_Record_j0 p2 p4 j0_0 j0_1 = some r0 := h
  unfold slices_rotateCmpFunc_Record_j0 at h
  show Tri _ _ _ (inv_slices_rotateCmpFunc_Record_0 p2 fi4 cp4 j0_0 j0_1)
  refine tri_region ?_
  refine m1 ?_
  refine m1 ?_
  refine m1 ?_
  refine grd_elim h fun g3 h => ?_
  refine s_subI rfl rfl rfl rfl g3 rfl rfl rfl ?_
  refine m1 ?_
  refine m1 ?_
  refine m1 ?_
  refine bnd1_elim h fun x4 q5 h => ?_
  refine grd_elim h fun g6 h => ?_
  refine s_callN (kb := []) (ns := [(1000, 0)]) (v := .tup []) rfl rfl cl224 (wslices_swapRangeCmpFunc_Record j0_0 (p2 - j0_1) p2 j0_1 fi4 cp4 hf4 hb4 p4 hg4 x4 q5) rfl (.cons (.refOwn rfl) (.cons (.free rfl) (.cons (.free rfl) (.cons (.free rfl) (.cons (relFn hf4) .nil))))) ⟨⟨_, rfl, rfl⟩, trivial⟩ (memCons (allFree_map recV_free) memNil) (List.nodup_cons.2 ⟨List.not_mem_nil, .nil⟩) memNil rfl trivial (memCons (allSc_map recV_sc) memNil) rfl rfl rfl rfl rfl rfl ?_
  refine rt_nil ?_
  have e0 := (some1 h); subst e0
  exact endY [((1000, 0), ⟨39, 6, List.map recV x4, false, false⟩, some (1000, 0))] [] rvN ⟨⟨rfl, _, rfl, rfl, rfl, rfl, id, rowsCv_eq rfl (allFree_map recV_free), rowsZ_map recV_len⟩, trivial⟩ trivial rfl rfl (by kernel_rfl) rfl (CvL.tup .nil)

/- impl.Record] -/
def inv_slices_symMergeCmpFunc_Record_14 (p1 : Int) (p2 : Int) (p3 : Int) (fi4 : FuncId) (cp4 : List V) (j9_0 : Int) (j11_0 : List Rec) (j14_0 : Bool) : St := mkT 220 [(0, .ref (1000, 0) 0 j11_0.length), (3, .sc (.int .i64 p3)), (4, .fn fi4 cp4), (18, .sc (.int .i64 (IntKind.i64.wrap (ishr .u64 (IntKind.u64.wrap (p1 + p3)) 1)))), (24, .sc (.int .i64 (((IntKind.i64.wrap (ishr .u64 (IntKind.u64.wrap (p1 + p3)) 1)) + p2) - j9_0))), (213, .sc (.bool j14_0))] [((1000, 0), some ⟨39, 6, List.map recV j11_0, false, false⟩)]
def inv_slices_symMergeCmpFunc_Record_13 (p1 : Int) (p2 : Int) (p3 : Int) (fi4 : FuncId) (cp4 : List V) (j9_0 : Int) (j11_0 : List Rec) (j13_0 : Bool) : St := mkT 220 [(0, .ref (1000, 0) 0 j11_0.length), (1, .sc (.int .i64 p1)), (3, .sc (.int .i64 p3)), (4, .fn fi4 cp4), (18, .sc (.int .i64 (IntKind.i64.wrap (ishr .u64 (IntKind.u64.wrap (p1 + p3)) 1)))), (20, .sc (.int .i64 j9_0)), (24, .sc (.int .i64 (((IntKind.i64.wrap (ishr .u64 (IntKind.u64.wrap (p1 + p3)) 1)) + p2) - j9_0))), (199, .sc (.bool j13_0))] [((1000, 0), some ⟨39, 6, List.map recV j11_0, false, false⟩)]
def inv_slices_symMergeCmpFunc_Record_12 (p0 : List Rec) (p1 : Int) (p2 : Int) (p3 : Int) (fi4 : FuncId) (cp4 : List V) (j9_0 : Int) (j12_0 : Bool) : St := mkT 220 [(0, .ref (1000, 0) 0 p0.length), (1, .sc (.int .i64 p1)), (2, .sc (.int .i64 p2)), (3, .sc (.int .i64 p3)), (4, .fn fi4 cp4), (18, .sc (.int .i64 (IntKind.i64.wrap (ishr .u64 (IntKind.u64.wrap (p1 + p3)) 1)))), (20, .sc (.int .i64 j9_0)), (24, .sc (.int .i64 (((IntKind.i64.wrap (ishr .u64 (IntKind.u64.wrap (p1 + p3)) 1)) + p2) - j9_0))), (185, .sc (.bool j12_0))] [((1000, 0), some ⟨39, 6, List.map recV p0, false, false⟩)]
def inv_slices_symMergeCmpFunc_Record_11 (p1 : Int) (p2 : Int) (p3 : Int) (fi4 : FuncId) (cp4 : List V) (j9_0 : Int) (j11_0 : List Rec) : St := mkT 220 [(0, .ref (1000, 0) 0 j11_0.length), (1, .sc (.int .i64 p1)), (3, .sc (.int .i64 p3)), (4, .fn fi4 cp4), (18, .sc (.int .i64 (IntKind.i64.wrap (ishr .u64 (IntKind.u64.wrap (p1 + p3)) 1)))), (20, .sc (.int .i64 j9_0)), (24, .sc (.int .i64 (((IntKind.i64.wrap (ishr .u64 (IntKind.u64.wrap (p1 + p3)) 1)) + p2) - j9_0)))] [((1000, 0), some ⟨39, 6, List.map recV j11_0, false, false⟩)]
def inv_slices_symMergeCmpFunc_Record_10 (p0 : List Rec) (p1 : Int) (p2 : Int) (p3 : Int) (fi4 : FuncId) (cp4 : List V) (v10_0 : Int) (v10_1 : Int) : St := mkT 220 [(0, .ref (1000, 0) 0 p0.length), (1, .sc (.int .i64 p1)), (2, .sc (.int .i64 p2)), (3, .sc (.int .i64 p3)), (4, .fn fi4 cp4), (18, .sc (.int .i64 (IntKind.i64.wrap (ishr .u64 (IntKind.u64.wrap (p1 + p3)) 1)))), (19, .sc (.int .i64 ((IntKind.i64.wrap (ishr .u64 (IntKind.u64.wrap (p1 + p3)) 1)) + p2))), (20, .sc (.int .i64 v10_0)), (21, .sc (.int .i64 v10_1)), (22, .sc (.int .i64 (((IntKind.i64.wrap (ishr .u64 (IntKind.u64.wrap (p1 + p3)) 1)) + p2) - 1)))] [((1000, 0), some ⟨39, 6, List.map recV p0, false, false⟩)]
def inv_slices_symMergeCmpFunc_Record_9 (p0 : List Rec) (p1 : Int) (p2 : Int) (p3 : Int) (fi4 : FuncId) (cp4 : List V) (j9_0 : Int) : St := mkT 220 [(0, .ref (1000, 0) 0 p0.length), (1, .sc (.int .i64 p1)), (2, .sc (.int .i64 p2)), (3, .sc (.int .i64 p3)), (4, .fn fi4 cp4), (18, .sc (.int .i64 (IntKind.i64.wrap (ishr .u64 (IntKind.u64.wrap (p1 + p3)) 1)))), (19, .sc (.int .i64 ((IntKind.i64.wrap (ishr .u64 (IntKind.u64.wrap (p1 + p3)) 1)) + p2))), (20, .sc (.int .i64 j9_0))] [((1000, 0), some ⟨39, 6, List.map recV p0, false, false⟩)]
def inv_slices_symMergeCmpFunc_Record_8 (p0 : List Rec) (p1 : Int) (p2 : Int) (p3 : Int) (fi4 : FuncId) (cp4 : List V) (j8_0 : Int) (j8_1 : Int) : St := mkT 220 [(0, .ref (1000, 0) 0 p0.length), (1, .sc (.int .i64 p1)), (2, .sc (.int .i64 p2)), (3, .sc (.int .i64 p3)), (4, .fn fi4 cp4), (18, .sc (.int .i64 (IntKind.i64.wrap (ishr .u64 (IntKind.u64.wrap (p1 + p3)) 1)))), (19, .sc (.int .i64 ((IntKind.i64.wrap (ishr .u64 (IntKind.u64.wrap (p1 + p3)) 1)) + p2))), (20, .sc (.int .i64 j8_0)), (21, .sc (.int .i64 j8_1))] [((1000, 0), some ⟨39, 6, List.map recV p0, false, false⟩)]
def inv_slices_symMergeCmpFunc_Record_7 (j5_0 : Int) (v7_0 : List Rec) (v7_1 : Int) : St := mkT 220 [(0, .ref (1000, 0) 0 v7_0.length), (14, .sc (.int .i64 j5_0)), (17, .sc (.int .i64 v7_1))] [((1000, 0), some ⟨39, 6, List.map recV v7_0, false, false⟩)]
def inv_slices_symMergeCmpFunc_Record_6 (p0 : List Rec) (p2 : Int) (fi4 : FuncId) (cp4 : List V) (v6_0 : Int) (v6_1 : Int) : St := mkT 220 [(0, .ref (1000, 0) 0 p0.length), (2, .sc (.int .i64 p2)), (4, .fn fi4 cp4), (14, .sc (.int .i64 v6_0)), (15, .sc (.int .i64 v6_1))] [((1000, 0), some ⟨39, 6, List.map recV p0, false, false⟩)]
def inv_slices_symMergeCmpFunc_Record_5 (p0 : List Rec) (p2 : Int) (j5_0 : Int) : St := mkT 220 [(0, .ref (1000, 0) 0 p0.length), (2, .sc (.int .i64 p2)), (14, .sc (.int .i64 j5_0))] [((1000, 0), some ⟨39, 6, List.map recV p0, false, false⟩)]
def inv_slices_symMergeCmpFunc_Record_4 (p0 : List Rec) (p1 : Int) (p2 : Int) (p3 : Int) (fi4 : FuncId) (cp4 : List V) : St := mkT 220 [(0, .ref (1000, 0) 0 p0.length), (1, .sc (.int .i64 p1)), (2, .sc (.int .i64 p2)), (3, .sc (.int .i64 p3)), (4, .fn fi4 cp4)] [((1000, 0), some ⟨39, 6, List.map recV p0, false, false⟩)]
def inv_slices_symMergeCmpFunc_Record_3 (j1_0 : Int) (v3_0 : List Rec) (v3_1 : Int) : St := mkT 220 [(0, .ref (1000, 0) 0 v3_0.length), (10, .sc (.int .i64 j1_0)), (13, .sc (.int .i64 v3_1))] [((1000, 0), some ⟨39, 6, List.map recV v3_0, false, false⟩)]
def inv_slices_symMergeCmpFunc_Record_2 (p0 : List Rec) (p1 : Int) (fi4 : FuncId) (cp4 : List V) (v2_0 : Int) (v2_1 : Int) : St := mkT 220 [(0, .ref (1000, 0) 0 p0.length), (1, .sc (.int .i64 p1)), (4, .fn fi4 cp4), (10, .sc (.int .i64 v2_0)), (11, .sc (.int .i64 v2_1))] [((1000, 0), some ⟨39, 6, List.map recV p0, false, false⟩)]
def inv_slices_symMergeCmpFunc_Record_1 (p0 : List Rec) (p1 : Int) (j1_0 : Int) : St := mkT 220 [(0, .ref (1000, 0) 0 p0.length), (1, .sc (.int .i64 p1)), (10, .sc (.int .i64 j1_0))] [((1000, 0), some ⟨39, 6, List.map recV p0, false, false⟩)]
def inv_slices_symMergeCmpFunc_Record_0 (p0 : List Rec) (p1 : Int) (p2 : Int) (p3 : Int) (fi4 : FuncId) (cp4 : List V) : St := mkT 220 [(0, .ref (1000, 0) 0 p0.length), (1, .sc (.int .i64 p1)), (2, .sc (.int .i64 p2)), (3, .sc (.int .i64 p3)), (4, .fn fi4 cp4)] [((1000, 0), some ⟨39, 6, List.map recV p0, false, false⟩)]
set_option maxRecDepth 4000 in
set_option maxHeartbeats 800000 in
theorem wslices_symMergeCmpFunc_Record (p0 : List Rec) (p1 : Int) (p2 : Int) (p3 : Int) (fi4 : FuncId) (cp4 : List V) (hf4 : cp4.all (·.free) = true) (hb4 : callable Tryd.prog fi4 = true) (p4 : Rec → Rec → Option Int) (hg4 : ∀ (z0 : Rec) (z1 : Rec) v, p4 z0 z1 = some v → Runs Tryd.prog fi4 ([.agg (recV z0), .agg (recV z1)] ++ cp4) [] (.sc (.int .i64 v)) []) (r0 : List Rec) (h : slices_symMergeCmpFunc_Record p0 p1 p2 p3 p4 = some r0) : Runs Tryd.prog 197 [.ref (1000, 0) 0 p0.length, .sc (.int .i64 p1), .sc (.int .i64 p2), .sc (.int .i64 p3), .fn fi4 cp4] [⟨39, 6, List.map recV p0, false, false⟩] (.tup []) [⟨39, 6, List.map recV r0, false, false⟩] := by
 unfold slices_symMergeCmpFunc_Record at h
 refine runsR [] Tryd.func197 rfl rfl rfl rfl ?_
 rw [Tryd.ntmps197]
 refine tri_cutI (ι := { p : Unit // slices_symMergeCmpFunc_Record_j0 p0 p1 p2 p3 p4 = some r0 }) (fun p => inv_slices_symMergeCmpFunc_Record_0 p0 p1 p2 p3 fi4 cp4) ?_ ?_
 ·skip
  refine tri_sr ?_
  refine m1 ?_
  refine m1 ?_
  refine grd_elim h fun g1 h => ?_
  refine s_subI rfl rfl rfl rfl g1 rfl rfl rfl ?_
  refine s_of (st_eqI rfl rfl rfl) rfl rfl rfl rfl ?_
  refine rt_nil ?_
  refine tri_cond rfl (fun c2 => ?_) (fun c2 => ?_)
  ·replace h := cond_t h c2
   refine tri_sr ?_
   refine m1 ?_
   refine m2 ?_
   refine rt_nil ?_
   refine tri_sr ?_
   refine m1 ?_
   refine m2 ?_
   refine rt_nil ?_
   refine tri_cutI (ι := { p : Int // slices_symMergeCmpFunc_Record_j1 p0 p1 p = some r0 }) (fun p => inv_slices_symMergeCmpFunc_Record_1 p0 p1 p.1) ?_ ?_
   ·skip
    refine tri_block ?_
    refine tri_loop (ι := { p : Nat × Int × Int // slices_symMergeCmpFunc_Record_l2 p0 p1 p4 p.1 p.2.1 p.2.2 = some r0 }) (fun p => inv_slices_symMergeCmpFunc_Record_2 p0 p1 fi4 cp4 p.1.2.1 p.1.2.2) (fun p => p.1.1) ⟨(fuel0, p2, p3), h⟩ ?_ ?_
    ·skip
     refine entX [((1000, 0), ⟨39, 6, List.map recV p0, false, false⟩, some (1000, 0))] [] ⟨⟨rfl, _, rfl, rfl, rfl, rfl, id, rowsCv_eq rfl (allFree_map recV_free), rowsZ_map recV_len⟩, trivial⟩ trivial rfl rfl ?_
     exact ⟨(.ref rfl), (.free rfl), (cvFn hf4), (.free rfl), (.free rfl), trivial⟩
    ·rintro ⟨⟨f2, v2_0, v2_1⟩, h⟩
     replace h : slices_symMergeCmpFunc_Record_l2 p0 p1 p4 f2 v2_0 v2_1 = some r0 := h
     cases f2 with
     | zero => cases h
     | succ f2 =>
     rw [slices_symMergeCmpFunc_Record_l2] at h
     show Tri _ _ _ (inv_slices_symMergeCmpFunc_Record_2 p0 p1 fi4 cp4 v2_0 v2_1)
     refine tri_seq ?_
     refine tri_sr ?_
     refine m1 ?_
     refine m1 ?_
     refine s_of (st_lss rfl rfl rfl) rfl rfl rfl rfl ?_
     refine rt_nil ?_
     refine tri_cond rfl (fun c3 => ?_) (fun c3 => ?_)
     ·replace h := cond_t h c3
      refine tri_skip ?_
      refine tri_block ?_
      refine tri_sr ?_
      refine m1 ?_
      refine m1 ?_
      refine grd_elim h fun g4 h => ?_
      refine s_addI rfl rfl rfl rfl g4 rfl rfl rfl ?_
      refine s_of (st_conv ik3 ik173 rfl rfl) rfl rfl rfl rfl ?_
      refine s_of (st_shrD (b := 1) rfl rfl rfl) rfl rfl rfl rfl ?_
      refine s_of (st_conv ik173 ik3 rfl rfl) rfl rfl rfl rfl ?_
      refine m2 ?_
      refine rt_nil ?_
      refine tri_seq ?_
      refine tri_draw mixed ?_
      refine m1 ?_
      refine m1 ?_
      refine m1 ?_
      refine bnd1_elim h fun x5 q6 h => ?_
      have q6a := (idx_some q6).1; have q6b := (idx_some q6).2
      refine s_indexZ rfl rfl rfl rfl sl24 rfl q6a (get_lt q6b) rfl rfl rfl ?_
      refine s_loadR rfl rfl rfl (rowG q6b) ty39 rfl rfl rfl ?_
      refine m1 ?_
      refine m1 ?_
      refine bnd1_elim h fun x7 q8 h => ?_
      have q8a := (idx_some q8).1; have q8b := (idx_some q8).2
      refine s_indexZ rfl rfl rfl rfl sl24 rfl q8a (get_lt q8b) rfl rfl rfl ?_
      refine s_loadR rfl rfl rfl (rowG q8b) ty39 rfl rfl rfl ?_
      refine bnd1_elim h fun x9 q10 h => ?_
      refine s_callN (kb := []) (ns := []) (v := .sc (.int .i64 x9)) rfl rfl hb4 (hg4 x5 x7 x9 q10) rfl (.cons (relAgg rfl) (.cons (relAgg rfl) (argsFree hf4))) trivial memNil .nil memNil rfl trivial memNil rfl rfl rfl rfl rfl rfl ?_
      refine s_of (st_lss rfl rfl rfl) rfl rfl rfl rfl ?_
      refine rt_nil ⟨by kernel_rfl, ?_⟩
      refine tri_cond rfl (fun c11 => ?_) (fun c11 => ?_)
      ·replace h := cond_t h c11
       refine tri_region ?_
       refine m1 ?_
       refine grd_elim h fun g12 h => ?_
       refine s_addI rfl rfl rfl rfl g12 rfl rfl rfl ?_
       refine m2 ?_
       refine rt_nil ?_
       refine Exists.intro ⟨(f2, (IntKind.i64.wrap (ishr .u64 (IntKind.u64.wrap (v2_0 + v2_1)) 1)) + 1, v2_1), h⟩ (And.intro (Nat.lt_succ_self _) ?_)
       refine entX [((1000, 0), ⟨39, 6, List.map recV p0, false, false⟩, some (1000, 0))] [] ⟨⟨rfl, _, rfl, rfl, rfl, rfl, id, rowsCv_eq rfl (allFree_map recV_free), rowsZ_map recV_len⟩, trivial⟩ trivial rfl rfl ?_
       exact ⟨(.ref rfl), (.free rfl), (cvFn hf4), (.free rfl), (.free rfl), trivial⟩
      ·replace h := cond_f h c11
       refine tri_region ?_
       refine m1 ?_
       refine m2 ?_
       refine rt_nil ?_
       refine Exists.intro ⟨(f2, v2_0, IntKind.i64.wrap (ishr .u64 (IntKind.u64.wrap (v2_0 + v2_1)) 1)), h⟩ (And.intro (Nat.lt_succ_self _) ?_)
       refine entX [((1000, 0), ⟨39, 6, List.map recV p0, false, false⟩, some (1000, 0))] [] ⟨⟨rfl, _, rfl, rfl, rfl, rfl, id, rowsCv_eq rfl (allFree_map recV_free), rowsZ_map recV_len⟩, trivial⟩ trivial rfl rfl ?_
       exact ⟨(.ref rfl), (.free rfl), (cvFn hf4), (.free rfl), (.free rfl), trivial⟩
     ·replace h := cond_f h c3
      refine tri_exit ?_
      refine Exists.intro ⟨v2_0, h⟩ ?_
      refine entX [((1000, 0), ⟨39, 6, List.map recV p0, false, false⟩, some (1000, 0))] [] ⟨⟨rfl, _, rfl, rfl, rfl, rfl, id, rowsCv_eq rfl (allFree_map recV_free), rowsZ_map recV_len⟩, trivial⟩ trivial rfl rfl ?_
      exact ⟨(.ref rfl), (.free rfl), (.free rfl), trivial⟩
   ·rintro ⟨j1_0, h⟩
    replace h : slices_symMergeCmpFunc_Record_j1 p0 p1 j1_0 = some r0 := h
    unfold slices_symMergeCmpFunc_Record_j1 at h
    show Tri _ _ _ (inv_slices_symMergeCmpFunc_Record_1 p0 p1 j1_0)
    refine tri_seq ?_
    refine tri_sr ?_
    refine m1 ?_
    refine m2 ?_
    refine rt_nil ?_
    refine tri_block ?_
    refine tri_loop (ι := { p : Nat × (List Rec) × Int // slices_symMergeCmpFunc_Record_l3 j1_0 p.1 p.2.1 p.2.2 = some r0 }) (fun p => inv_slices_symMergeCmpFunc_Record_3 j1_0 p.1.2.1 p.1.2.2) (fun p => p.1.1) ⟨(fuel0, p0, p1), h⟩ ?_ ?_
    ·skip
     refine entX [((1000, 0), ⟨39, 6, List.map recV p0, false, false⟩, some (1000, 0))] [] ⟨⟨rfl, _, rfl, rfl, rfl, rfl, id, rowsCv_eq rfl (allFree_map recV_free), rowsZ_map recV_len⟩, trivial⟩ trivial rfl rfl ?_
     exact ⟨(.ref rfl), (.free rfl), (.free rfl), trivial⟩
    ·rintro ⟨⟨f3, v3_0, v3_1⟩, h⟩
     replace h : slices_symMergeCmpFunc_Record_l3 j1_0 f3 v3_0 v3_1 = some r0 := h
     cases f3 with
     | zero => cases h
     | succ f3 =>
     rw [slices_symMergeCmpFunc_Record_l3] at h
     show Tri _ _ _ (inv_slices_symMergeCmpFunc_Record_3 j1_0 v3_0 v3_1)
     refine tri_seq ?_
     refine tri_sr ?_
     refine m1 ?_
     refine m1 ?_
     refine grd_elim h fun g3 h => ?_
     refine s_subI rfl rfl rfl rfl g3 rfl rfl rfl ?_
     refine s_of (st_lss rfl rfl rfl) rfl rfl rfl rfl ?_
     refine rt_nil ?_
     refine tri_cond rfl (fun c4 => ?_) (fun c4 => ?_)
     ·replace h := cond_t h c4
      refine tri_skip ?_
      refine tri_seq ?_
      refine tri_block ?_
      refine tri_draw mixed ?_
      refine m1 ?_
      refine m1 ?_
      refine m1 ?_
      refine m1 ?_
      refine grd_elim h fun g5 h => ?_
      refine s_addI rfl rfl rfl rfl g5 rfl rfl rfl ?_
      refine m1 ?_
      refine m1 ?_
      refine grd_elim h fun g6 h => ?_
      refine s_addI rfl rfl rfl rfl g6 rfl rfl rfl ?_
      refine bnd1_elim h fun x7 q8 h => ?_
      have q8a := (idx_some q8).1; have q8b := (idx_some q8).2
      refine s_indexZ rfl rfl rfl rfl sl24 rfl q8a (get_lt q8b) rfl rfl rfl ?_
      refine s_loadR rfl rfl rfl (rowG q8b) ty39 rfl rfl rfl ?_
      refine m1 ?_
      refine m1 ?_
      refine bnd1_elim h fun x9 q10 h => ?_
      have q10a := (idx_some q10).1; have q10b := (idx_some q10).2
      refine s_indexZ rfl rfl rfl rfl sl24 rfl q10a (get_lt q10b) rfl rfl rfl ?_
      refine s_loadR rfl rfl rfl (rowG q10b) ty39 rfl rfl rfl ?_
      refine s_indexZ rfl rfl rfl rfl sl24 rfl q10a (get_lt q10b) rfl rfl rfl ?_
      refine s_storeL (x' := x7) rfl rfl rfl q10b ty39 rfl rfl rfl rfl rfl rfl ?_
      refine bnd1_elim h fun x11 q12 h => ?_
      have q12a := (idx_some q12).1; have q12b := (idx_some q12).2
      refine s_indexZ rfl rfl rfl rfl sl24 rfl q12a (by have q := get_lt q12b; simpa only [List.length_set] using q) rfl rfl rfl ?_
      refine s_storeL (x' := x9) rfl rfl rfl q12b ty39 rfl rfl rfl rfl rfl rfl ?_
      refine rt_nil ⟨by kernel_rfl, ?_⟩
      refine tri_region ?_
      refine m1 ?_
      refine grd_elim h fun g13 h => ?_
      refine s_addI rfl rfl rfl rfl g13 rfl rfl rfl ?_
      refine m2 ?_
      refine rt_nil ?_
      refine Exists.intro ⟨(f3, (v3_0.set v3_1.toNat x7).set ((v3_1 + 1).toNat) x9, v3_1 + 1), h⟩ (And.intro (Nat.lt_succ_self _) ?_)
      refine entX [((1000, 0), ⟨39, 6, List.map recV ((v3_0.set v3_1.toNat x7).set ((v3_1 + 1).toNat) x9), false, false⟩, some (1000, 0))] [] ⟨⟨rfl, _, rfl, rfl, rfl, rfl, id, rowsCv_eq rfl (allFree_map recV_free), rowsZ_map recV_len⟩, trivial⟩ trivial rfl rfl ?_
      exact ⟨(cvRefLen rfl (by simp only [List.length_set])), (.free rfl), (.free rfl), trivial⟩
     ·replace h := cond_f h c4
      refine tri_exit ?_
      refine tri_ret ?_
      have e0 := (some1 h); subst e0
      exact endY [((1000, 0), ⟨39, 6, List.map recV v3_0, false, false⟩, some (1000, 0))] [] rvN ⟨⟨rfl, _, rfl, rfl, rfl, rfl, id, rowsCv_eq rfl (allFree_map recV_free), rowsZ_map recV_len⟩, trivial⟩ trivial rfl rfl (by kernel_rfl) rfl (CvL.tup .nil)
  ·replace h := cond_f h c2
   refine tri_skip ?_
   refine Exists.intro ⟨(), h⟩ ?_
   refine entX [((1000, 0), ⟨39, 6, List.map recV p0, false, false⟩, some (1000, 0))] [] ⟨⟨rfl, _, rfl, rfl, rfl, rfl, id, rowsCv_eq rfl (allFree_map recV_free), rowsZ_map recV_len⟩, trivial⟩ trivial rfl rfl ?_
   exact ⟨(.ref rfl), (.free rfl), (.free rfl), (.free rfl), (cvFn hf4), trivial⟩
 ·rintro ⟨u, h⟩
  replace h : slices_symMergeCmpFunc_Record_j0 p0 p1 p2 p3 p4 = some r0 := h
  unfold slices_symMergeCmpFunc_Record_j0 at h
  show Tri _ _ _ (inv_slices_symMergeCmpFunc_Record_0 p0 p1 p2 p3 fi4 cp4)
  refine tri_cutI (ι := { p : Unit // slices_symMergeCmpFunc_Record_j4 p0 p1 p2 p3 p4 = some r0 }) (fun p => inv_slices_symMergeCmpFunc_Record_4 p0 p1 p2 p3 fi4 cp4) ?_ ?_
  ·skip
   refine tri_sr ?_
   refine m1 ?_
   refine m1 ?_
   refine grd_elim h fun g1 h => ?_
   refine s_subI rfl rfl rfl rfl g1 rfl rfl rfl ?_
   refine s_of (st_eqI rfl rfl rfl) rfl rfl rfl rfl ?_
   refine rt_nil ?_
   refine tri_cond rfl (fun c2 => ?_) (fun c2 => ?_)
   ·replace h := cond_t h c2
    refine tri_sr ?_
    refine m1 ?_
    refine m2 ?_
    refine rt_nil ?_
    refine tri_sr ?_
    refine m1 ?_
    refine m2 ?_
    refine rt_nil ?_
    refine tri_cutI (ι := { p : Int // slices_symMergeCmpFunc_Record_j5 p0 p2 p = some r0 }) (fun p => inv_slices_symMergeCmpFunc_Record_5 p0 p2 p.1) ?_ ?_
    ·skip
     refine tri_block ?_
     refine tri_loop (ι := { p : Nat × Int × Int // slices_symMergeCmpFunc_Record_l6 p0 p2 p4 p.1 p.2.1 p.2.2 = some r0 }) (fun p => inv_slices_symMergeCmpFunc_Record_6 p0 p2 fi4 cp4 p.1.2.1 p.1.2.2) (fun p => p.1.1) ⟨(fuel0, p1, p2), h⟩ ?_ ?_
     ·skip
      refine entX [((1000, 0), ⟨39, 6, List.map recV p0, false, false⟩, some (1000, 0))] [] ⟨⟨rfl, _, rfl, rfl, rfl, rfl, id, rowsCv_eq rfl (allFree_map recV_free), rowsZ_map recV_len⟩, trivial⟩ trivial rfl rfl ?_
      exact ⟨(.ref rfl), (.free rfl), (cvFn hf4), (.free rfl), (.free rfl), trivial⟩
     ·rintro ⟨⟨f6, v6_0, v6_1⟩, h⟩
      replace h : slices_symMergeCmpFunc_Record_l6 p0 p2 p4 f6 v6_0 v6_1 = some r0 := h
      cases f6 with
      | zero => cases h
      | succ f6 =>
      rw [slices_symMergeCmpFunc_Record_l6] at h
      show Tri _ _ _ (inv_slices_symMergeCmpFunc_Record_6 p0 p2 fi4 cp4 v6_0 v6_1)
      refine tri_seq ?_
      refine tri_sr ?_
      refine m1 ?_
      refine m1 ?_
      refine s_of (st_lss rfl rfl rfl) rfl rfl rfl rfl ?_
      refine rt_nil ?_
      refine tri_cond rfl (fun c3 => ?_) (fun c3 => ?_)
      ·replace h := cond_t h c3
       refine tri_skip ?_
       refine tri_block ?_
       refine tri_sr ?_
       refine m1 ?_
       refine m1 ?_
       refine grd_elim h fun g4 h => ?_
       refine s_addI rfl rfl rfl rfl g4 rfl rfl rfl ?_
       refine s_of (st_conv ik3 ik173 rfl rfl) rfl rfl rfl rfl ?_
       refine s_of (st_shrD (b := 1) rfl rfl rfl) rfl rfl rfl rfl ?_
       refine s_of (st_conv ik173 ik3 rfl rfl) rfl rfl rfl rfl ?_
       refine m2 ?_
       refine rt_nil ?_
       refine tri_seq ?_
       refine tri_draw mixed ?_
       refine m1 ?_
       refine m1 ?_
       refine m1 ?_
       refine bnd1_elim h fun x5 q6 h => ?_
       have q6a := (idx_some q6).1; have q6b := (idx_some q6).2
       refine s_indexZ rfl rfl rfl rfl sl24 rfl q6a (get_lt q6b) rfl rfl rfl ?_
       refine s_loadR rfl rfl rfl (rowG q6b) ty39 rfl rfl rfl ?_
       refine m1 ?_
       refine m1 ?_
       refine bnd1_elim h fun x7 q8 h => ?_
       have q8a := (idx_some q8).1; have q8b := (idx_some q8).2
       refine s_indexZ rfl rfl rfl rfl sl24 rfl q8a (get_lt q8b) rfl rfl rfl ?_
       refine s_loadR rfl rfl rfl (rowG q8b) ty39 rfl rfl rfl ?_
       refine bnd1_elim h fun x9 q10 h => ?_
       refine s_callN (kb := []) (ns := []) (v := .sc (.int .i64 x9)) rfl rfl hb4 (hg4 x5 x7 x9 q10) rfl (.cons (relAgg rfl) (.cons (relAgg rfl) (argsFree hf4))) trivial memNil .nil memNil rfl trivial memNil rfl rfl rfl rfl rfl rfl ?_
       refine s_of (st_lss rfl rfl rfl) rfl rfl rfl rfl ?_
       refine s_of (st_not rfl rfl) rfl rfl rfl rfl ?_
       refine rt_nil ⟨by kernel_rfl, ?_⟩
       refine tri_cond rfl (fun c11 => ?_) (fun c11 => ?_)
       ·replace h := cond_t h c11
        refine tri_region ?_
        refine m1 ?_
        refine grd_elim h fun g12 h => ?_
        refine s_addI rfl rfl rfl rfl g12 rfl rfl rfl ?_
        refine m2 ?_
        refine rt_nil ?_
        refine Exists.intro ⟨(f6, (IntKind.i64.wrap (ishr .u64 (IntKind.u64.wrap (v6_0 + v6_1)) 1)) + 1, v6_1), h⟩ (And.intro (Nat.lt_succ_self _) ?_)
        refine entX [((1000, 0), ⟨39, 6, List.map recV p0, false, false⟩, some (1000, 0))] [] ⟨⟨rfl, _, rfl, rfl, rfl, rfl, id, rowsCv_eq rfl (allFree_map recV_free), rowsZ_map recV_len⟩, trivial⟩ trivial rfl rfl ?_
        exact ⟨(.ref rfl), (.free rfl), (cvFn hf4), (.free rfl), (.free rfl), trivial⟩
       ·replace h := cond_f h c11
        refine tri_region ?_
        refine m1 ?_
        refine m2 ?_
        refine rt_nil ?_
        refine Exists.intro ⟨(f6, v6_0, IntKind.i64.wrap (ishr .u64 (IntKind.u64.wrap (v6_0 + v6_1)) 1)), h⟩ (And.intro (Nat.lt_succ_self _) ?_)
        refine entX [((1000, 0), ⟨39, 6, List.map recV p0, false, false⟩, some (1000, 0))] [] ⟨⟨rfl, _, rfl, rfl, rfl, rfl, id, rowsCv_eq rfl (allFree_map recV_free), rowsZ_map recV_len⟩, trivial⟩ trivial rfl rfl ?_
        exact ⟨(.ref rfl), (.free rfl), (cvFn hf4), (.free rfl), (.free rfl), trivial⟩
      ·replace h := cond_f h c3
       refine tri_exit ?_
       refine Exists.intro ⟨v6_0, h⟩ ?_
       refine entX [((1000, 0), ⟨39, 6, List.map recV p0, false, false⟩, some (1000, 0))] [] ⟨⟨rfl, _, rfl, rfl, rfl, rfl, id, rowsCv_eq rfl (allFree_map recV_free), rowsZ_map recV_len⟩, trivial⟩ trivial rfl rfl ?_
       exact ⟨(.ref rfl), (.free rfl), (.free rfl), trivial⟩
    ·rintro ⟨j5_0, h⟩
     replace h : slices_symMergeCmpFunc_Record_j5 p0 p2 j5_0 = some r0 := h
     unfold slices_symMergeCmpFunc_Record_j5 at h
     show Tri _ _ _ (inv_slices_symMergeCmpFunc_Record_5 p0 p2 j5_0)
     refine tri_seq ?_
     refine tri_sr ?_
     refine m1 ?_
     refine m2 ?_
     refine rt_nil ?_
     refine tri_block ?_
     refine tri_loop (ι := { p : Nat × (List Rec) × Int // slices_symMergeCmpFunc_Record_l7 j5_0 p.1 p.2.1 p.2.2 = some r0 }) (fun p => inv_slices_symMergeCmpFunc_Record_7 j5_0 p.1.2.1 p.1.2.2) (fun p => p.1.1) ⟨(fuel0, p0, p2), h⟩ ?_ ?_
     ·skip
      refine entX [((1000, 0), ⟨39, 6, List.map recV p0, false, false⟩, some (1000, 0))] [] ⟨⟨rfl, _, rfl, rfl, rfl, rfl, id, rowsCv_eq rfl (allFree_map recV_free), rowsZ_map recV_len⟩, trivial⟩ trivial rfl rfl ?_
      exact ⟨(.ref rfl), (.free rfl), (.free rfl), trivial⟩
     ·rintro ⟨⟨f7, v7_0, v7_1⟩, h⟩
      replace h : slices_symMergeCmpFunc_Record_l7 j5_0 f7 v7_0 v7_1 = some r0 := h
      cases f7 with
      | zero => cases h
      | succ f7 =>
      rw [slices_symMergeCmpFunc_Record_l7] at h
      show Tri _ _ _ (inv_slices_symMergeCmpFunc_Record_7 j5_0 v7_0 v7_1)
      refine tri_seq ?_
      refine tri_sr ?_
      refine m1 ?_
      refine m1 ?_
      refine s_of (st_gtr rfl rfl rfl) rfl rfl rfl rfl ?_
      refine rt_nil ?_
      refine tri_cond rfl (fun c3 => ?_) (fun c3 => ?_)
      ·replace h := cond_t h c3
       refine tri_skip ?_
       refine tri_seq ?_
       refine tri_block ?_
       refine tri_draw mixed ?_
       refine m1 ?_
       refine m1 ?_
       refine m1 ?_
       refine m1 ?_
       refine grd_elim h fun g4 h => ?_
       refine s_subI rfl rfl rfl rfl g4 rfl rfl rfl ?_
       refine m1 ?_
       refine m1 ?_
       refine grd_elim h fun g5 h => ?_
       refine s_subI rfl rfl rfl rfl g5 rfl rfl rfl ?_
       refine bnd1_elim h fun x6 q7 h => ?_
       have q7a := (idx_some q7).1; have q7b := (idx_some q7).2
       refine s_indexZ rfl rfl rfl rfl sl24 rfl q7a (get_lt q7b) rfl rfl rfl ?_
       refine s_loadR rfl rfl rfl (rowG q7b) ty39 rfl rfl rfl ?_
       refine m1 ?_
       refine m1 ?_
       refine bnd1_elim h fun x8 q9 h => ?_
       have q9a := (idx_some q9).1; have q9b := (idx_some q9).2
       refine s_indexZ rfl rfl rfl rfl sl24 rfl q9a (get_lt q9b) rfl rfl rfl ?_
       refine s_loadR rfl rfl rfl (rowG q9b) ty39 rfl rfl rfl ?_
       refine s_indexZ rfl rfl rfl rfl sl24 rfl q9a (get_lt q9b) rfl rfl rfl ?_
       refine s_storeL (x' := x6) rfl rfl rfl q9b ty39 rfl rfl rfl rfl rfl rfl ?_
       refine bnd1_elim h fun x10 q11 h => ?_
       have q11a := (idx_some q11).1; have q11b := (idx_some q11).2
       refine s_indexZ rfl rfl rfl rfl sl24 rfl q11a (by have q := get_lt q11b; simpa only [List.length_set] using q) rfl rfl rfl ?_
       refine s_storeL (x' := x8) rfl rfl rfl q11b ty39 rfl rfl rfl rfl rfl rfl ?_
       refine rt_nil ⟨by kernel_rfl, ?_⟩
       refine tri_region ?_
       refine m1 ?_
       refine grd_elim h fun g12 h => ?_
       refine s_subI rfl rfl rfl rfl g12 rfl rfl rfl ?_
       refine m2 ?_
       refine rt_nil ?_
       refine Exists.intro ⟨(f7, (v7_0.set v7_1.toNat x6).set ((v7_1 - 1).toNat) x8, v7_1 - 1), h⟩ (And.intro (Nat.lt_succ_self _) ?_)
       refine entX [((1000, 0), ⟨39, 6, List.map recV ((v7_0.set v7_1.toNat x6).set ((v7_1 - 1).toNat) x8), false, false⟩, some (1000, 0))] [] ⟨⟨rfl, _, rfl, rfl, rfl, rfl, id, rowsCv_eq rfl (allFree_map recV_free), rowsZ_map recV_len⟩, trivial⟩ trivial rfl rfl ?_
       exact ⟨(cvRefLen rfl (by simp only [List.length_set])), (.free rfl), (.free rfl), trivial⟩
      ·replace h := cond_f h c3
       refine tri_exit ?_
       refine tri_ret ?_
       have e0 := (some1 h); subst e0
       exact endY [((1000, 0), ⟨39, 6, List.map recV v7_0, false, false⟩, some (1000, 0))] [] rvN ⟨⟨rfl, _, rfl, rfl, rfl, rfl, id, rowsCv_eq rfl (allFree_map recV_free), rowsZ_map recV_len⟩, trivial⟩ trivial rfl rfl (by kernel_rfl) rfl (CvL.tup .nil)
   ·replace h := cond_f h c2
    refine tri_skip ?_
    refine Exists.intro ⟨(), h⟩ ?_
    refine entX [((1000, 0), ⟨39, 6, List.map recV p0, false, false⟩, some (1000, 0))] [] ⟨⟨rfl, _, rfl, rfl, rfl, rfl, id, rowsCv_eq rfl (allFree_map recV_free), rowsZ_map recV_len⟩, trivial⟩ trivial rfl rfl ?_
    exact ⟨(.ref rfl), (.free rfl), (.free rfl), (.free rfl), (cvFn hf4), trivial⟩
  ·rintro ⟨u, h⟩
   replace h : slices_symMergeCmpFunc_Record_j4 p0 p1 p2 p3 p4 = some r0 := h
   unfold slices_symMergeCmpFunc_Record_j4 at h
   show Tri _ _ _ (inv_slices_symMergeCmpFunc_Record_4 p0 p1 p2 p3 fi4 cp4)
   refine tri_sr ?_
   refine m1 ?_
   refine m1 ?_
   refine grd_elim h fun g1 h => ?_
   refine s_addI rfl rfl rfl rfl g1 rfl rfl rfl ?_
   refine s_of (st_conv ik3 ik173 rfl rfl) rfl rfl rfl rfl ?_
   refine s_of (st_shrD (b := 1) rfl rfl rfl) rfl rfl rfl rfl ?_
   refine s_of (st_conv ik173 ik3 rfl rfl) rfl rfl rfl rfl ?_
   refine m2 ?_
   refine rt_nil ?_
   refine tri_sr ?_
   refine m1 ?_
   refine m1 ?_
   refine grd_elim h fun g2 h => ?_
   refine s_addI rfl rfl rfl rfl g2 rfl rfl rfl ?_
   refine m2 ?_
   refine rt_nil ?_
   refine tri_sr ?_
   refine s_mv (.inr rfl) (v := .sc (.int .i64 0)) rfl rfl rfl rfl ?_
   refine s_mv (.inr rfl) (v := .sc (.int .i64 0)) rfl rfl rfl rfl ?_
   refine rt_nil ?_
   refine tri_cutI (ι := { p : Int × Int // slices_symMergeCmpFunc_Record_j8 p0 p1 p2 p3 p4 p.1 p.2 = some r0 }) (fun p => inv_slices_symMergeCmpFunc_Record_8 p0 p1 p2 p3 fi4 cp4 p.1.1 p.1.2) ?_ ?_
   ·skip
    refine tri_sr ?_
    refine m1 ?_
    refine m1 ?_
    refine s_of (st_gtr rfl rfl rfl) rfl rfl rfl rfl ?_
    refine rt_nil ?_
    refine tri_cond rfl (fun c3 => ?_) (fun c3 => ?_)
    ·replace h := cond_t h c3
     refine tri_sr ?_
     refine m1 ?_
     refine m1 ?_
     refine grd_elim h fun g4 h => ?_
     refine s_subI rfl rfl rfl rfl g4 rfl rfl rfl ?_
     refine m2 ?_
     refine rt_nil ?_
     refine tri_region ?_
     refine m1 ?_
     refine m2 ?_
     refine rt_nil ?_
     refine Exists.intro ⟨(((IntKind.i64.wrap (ishr .u64 (IntKind.u64.wrap (p1 + p3)) 1)) + p2) - p3, IntKind.i64.wrap (ishr .u64 (IntKind.u64.wrap (p1 + p3)) 1)), h⟩ ?_
     refine entX [((1000, 0), ⟨39, 6, List.map recV p0, false, false⟩, some (1000, 0))] [] ⟨⟨rfl, _, rfl, rfl, rfl, rfl, id, rowsCv_eq rfl (allFree_map recV_free), rowsZ_map recV_len⟩, trivial⟩ trivial rfl rfl ?_
     exact ⟨(.ref rfl), (.free rfl), (.free rfl), (.free rfl), (cvFn hf4), (.free rfl), (.free rfl), (.free rfl), (.free rfl), trivial⟩
    ·replace h := cond_f h c3
     refine tri_sr ?_
     refine m1 ?_
     refine m2 ?_
     refine rt_nil ?_
     refine tri_region ?_
     refine m1 ?_
     refine m2 ?_
     refine rt_nil ?_
     refine Exists.intro ⟨(p1, p2), h⟩ ?_
     refine entX [((1000, 0), ⟨39, 6, List.map recV p0, false, false⟩, some (1000, 0))] [] ⟨⟨rfl, _, rfl, rfl, rfl, rfl, id, rowsCv_eq rfl (allFree_map recV_free), rowsZ_map recV_len⟩, trivial⟩ trivial rfl rfl ?_
     exact ⟨(.ref rfl), (.free rfl), (.free rfl), (.free rfl), (cvFn hf4), (.free rfl), (.free rfl), (.free rfl), (.free rfl), trivial⟩
   ·rintro ⟨⟨j8_0, j8_1⟩, h⟩
    replace h : slices_symMergeCmpFunc_Record_j8 p0 p1 p2 p3 p4 j8_0 j8_1 = some r0 := h
    unfold slices_symMergeCmpFunc_Record_j8 at h
    show Tri _ _ _ (inv_slices_symMergeCmpFunc_Record_8 p0 p1 p2 p3 fi4 cp4 j8_0 j8_1)
    refine tri_sr ?_
    refine m1 ?_
    refine grd_elim h fun g3 h => ?_
    refine s_subI rfl rfl rfl rfl g3 rfl rfl rfl ?_
    refine m2 ?_
    refine rt_nil ?_
    refine tri_cutI (ι := { p : Int // slices_symMergeCmpFunc_Record_j9 p0 p1 p2 p3 p4 p = some r0 }) (fun p => inv_slices_symMergeCmpFunc_Record_9 p0 p1 p2 p3 fi4 cp4 p.1) ?_ ?_
    ·skip
     refine tri_block ?_
     refine tri_loop (ι := { p : Nat × Int × Int // slices_symMergeCmpFunc_Record_l10 p0 p1 p2 p3 p4 p.1 p.2.1 p.2.2 = some r0 }) (fun p => inv_slices_symMergeCmpFunc_Record_10 p0 p1 p2 p3 fi4 cp4 p.1.2.1 p.1.2.2) (fun p => p.1.1) ⟨(fuel0, j8_0, j8_1), h⟩ ?_ ?_
     ·skip
      refine entX [((1000, 0), ⟨39, 6, List.map recV p0, false, false⟩, some (1000, 0))] [] ⟨⟨rfl, _, rfl, rfl, rfl, rfl, id, rowsCv_eq rfl (allFree_map recV_free), rowsZ_map recV_len⟩, trivial⟩ trivial rfl rfl ?_
      exact ⟨(.ref rfl), (.free rfl), (.free rfl), (.free rfl), (cvFn hf4), (.free rfl), (.free rfl), (.free rfl), (.free rfl), (.free rfl), trivial⟩
     ·rintro ⟨⟨f10, v10_0, v10_1⟩, h⟩
      replace h : slices_symMergeCmpFunc_Record_l10 p0 p1 p2 p3 p4 f10 v10_0 v10_1 = some r0 := h
      cases f10 with
      | zero => cases h
      | succ f10 =>
      rw [slices_symMergeCmpFunc_Record_l10] at h
      show Tri _ _ _ (inv_slices_symMergeCmpFunc_Record_10 p0 p1 p2 p3 fi4 cp4 v10_0 v10_1)
      refine tri_seq ?_
      refine tri_sr ?_
      refine m1 ?_
      refine m1 ?_
      refine s_of (st_lss rfl rfl rfl) rfl rfl rfl rfl ?_
      refine rt_nil ?_
      refine tri_cond rfl (fun c4 => ?_) (fun c4 => ?_)
      ·replace h := cond_t h c4
       refine tri_skip ?_
       refine tri_block ?_
       refine tri_sr ?_
       refine m1 ?_
       refine m1 ?_
       refine grd_elim h fun g5 h => ?_
       refine s_addI rfl rfl rfl rfl g5 rfl rfl rfl ?_
       refine s_of (st_conv ik3 ik173 rfl rfl) rfl rfl rfl rfl ?_
       refine s_of (st_shrD (b := 1) rfl rfl rfl) rfl rfl rfl rfl ?_
       refine s_of (st_conv ik173 ik3 rfl rfl) rfl rfl rfl rfl ?_
       refine m2 ?_
       refine rt_nil ?_
       refine tri_seq ?_
       refine tri_draw mixed ?_
       refine m1 ?_
       refine m1 ?_
       refine m1 ?_
       refine m1 ?_
       refine grd_elim h fun g6 h => ?_
       refine s_subI rfl rfl rfl rfl g6 rfl rfl rfl ?_
       refine bnd1_elim h fun x7 q8 h => ?_
       have q8a := (idx_some q8).1; have q8b := (idx_some q8).2
       refine s_indexZ rfl rfl rfl rfl sl24 rfl q8a (get_lt q8b) rfl rfl rfl ?_
       refine s_loadR rfl rfl rfl (rowG q8b) ty39 rfl rfl rfl ?_
       refine m1 ?_
       refine m1 ?_
       refine bnd1_elim h fun x9 q10 h => ?_
       have q10a := (idx_some q10).1; have q10b := (idx_some q10).2
       refine s_indexZ rfl rfl rfl rfl sl24 rfl q10a (get_lt q10b) rfl rfl rfl ?_
       refine s_loadR rfl rfl rfl (rowG q10b) ty39 rfl rfl rfl ?_
       refine bnd1_elim h fun x11 q12 h => ?_
       refine s_callN (kb := []) (ns := []) (v := .sc (.int .i64 x11)) rfl rfl hb4 (hg4 x7 x9 x11 q12) rfl (.cons (relAgg rfl) (.cons (relAgg rfl) (argsFree hf4))) trivial memNil .nil memNil rfl trivial memNil rfl rfl rfl rfl rfl rfl ?_
       refine s_of (st_lss rfl rfl rfl) rfl rfl rfl rfl ?_
       refine s_of (st_not rfl rfl) rfl rfl rfl rfl ?_
       refine rt_nil ⟨by kernel_rfl, ?_⟩
       refine tri_cond rfl (fun c13 => ?_) (fun c13 => ?_)
       ·replace h := cond_t h c13
        refine tri_region ?_
        refine m1 ?_
        refine grd_elim h fun g14 h => ?_
        refine s_addI rfl rfl rfl rfl g14 rfl rfl rfl ?_
        refine m2 ?_
        refine rt_nil ?_
        refine Exists.intro ⟨(f10, (IntKind.i64.wrap (ishr .u64 (IntKind.u64.wrap (v10_0 + v10_1)) 1)) + 1, v10_1), h⟩ (And.intro (Nat.lt_succ_self _) ?_)
        refine entX [((1000, 0), ⟨39, 6, List.map recV p0, false, false⟩, some (1000, 0))] [] ⟨⟨rfl, _, rfl, rfl, rfl, rfl, id, rowsCv_eq rfl (allFree_map recV_free), rowsZ_map recV_len⟩, trivial⟩ trivial rfl rfl ?_
        exact ⟨(.ref rfl), (.free rfl), (.free rfl), (.free rfl), (cvFn hf4), (.free rfl), (.free rfl), (.free rfl), (.free rfl), (.free rfl), trivial⟩
       ·replace h := cond_f h c13
        refine tri_region ?_
        refine m1 ?_
        refine m2 ?_
        refine rt_nil ?_
        refine Exists.intro ⟨(f10, v10_0, IntKind.i64.wrap (ishr .u64 (IntKind.u64.wrap (v10_0 + v10_1)) 1)), h⟩ (And.intro (Nat.lt_succ_self _) ?_)
        refine entX [((1000, 0), ⟨39, 6, List.map recV p0, false, false⟩, some (1000, 0))] [] ⟨⟨rfl, _, rfl, rfl, rfl, rfl, id, rowsCv_eq rfl (allFree_map recV_free), rowsZ_map recV_len⟩, trivial⟩ trivial rfl rfl ?_
        exact ⟨(.ref rfl), (.free rfl), (.free rfl), (.free rfl), (cvFn hf4), (.free rfl), (.free rfl), (.free rfl), (.free rfl), (.free rfl), trivial⟩
      ·replace h := cond_f h c4
       refine tri_exit ?_
       refine Exists.intro ⟨v10_0, h⟩ ?_
       refine entX [((1000, 0), ⟨39, 6, List.map recV p0, false, false⟩, some (1000, 0))] [] ⟨⟨rfl, _, rfl, rfl, rfl, rfl, id, rowsCv_eq rfl (allFree_map recV_free), rowsZ_map recV_len⟩, trivial⟩ trivial rfl rfl ?_
       exact ⟨(.ref rfl), (.free rfl), (.free rfl), (.free rfl), (cvFn hf4), (.free rfl), (.free rfl), (.free rfl), trivial⟩
    ·rintro ⟨j9_0, h⟩
     replace h : slices_symMergeCmpFunc_Record_j9 p0 p1 p2 p3 p4 j9_0 = some r0 := h
     unfold slices_symMergeCmpFunc_Record_j9 at h
     show Tri _ _ _ (inv_slices_symMergeCmpFunc_Record_9 p0 p1 p2 p3 fi4 cp4 j9_0)
     refine tri_sr ?_
     refine m1 ?_
     refine m1 ?_
     refine grd_elim h fun g4 h => ?_
     refine s_subI rfl rfl rfl rfl g4 rfl rfl rfl ?_
     refine m2 ?_
     refine rt_nil ?_
     refine tri_cutI (ι := { p : (List Rec) // slices_symMergeCmpFunc_Record_j11 p1 p2 p3 j9_0 p = some r0 }) (fun p => inv_slices_symMergeCmpFunc_Record_11 p1 p2 p3 fi4 cp4 j9_0 p.1) ?_ ?_
     ·skip
      refine tri_cutI (ι := { p : Bool // slices_symMergeCmpFunc_Record_j12 p0 p1 p2 p3 p4 j9_0 p = some r0 }) (fun p => inv_slices_symMergeCmpFunc_Record_12 p0 p1 p2 p3 fi4 cp4 j9_0 p.1) ?_ ?_
      ·skip
       refine tri_region ?_
       refine m1 ?_
       refine m1 ?_
       refine s_of (st_lss rfl rfl rfl) rfl rfl rfl rfl ?_
       refine m1 ?_
       refine s_split (t := 181) rfl (fun b5 => ?_) (fun b5 => ?_)
       ·replace h := cond_t h b5
        refine m1 ?_
        refine m1 ?_
        refine s_of (st_lss rfl rfl rfl) rfl rfl rfl rfl ?_
        refine s_pickT rfl rfl (by conv => lhs; whnf) rfl rfl rfl ?_
        refine rt_nil ?_
        refine Exists.intro ⟨decide (p2 < ((IntKind.i64.wrap (ishr .u64 (IntKind.u64.wrap (p1 + p3)) 1)) + p2) - j9_0), h⟩ ?_
        refine entX [((1000, 0), ⟨39, 6, List.map recV p0, false, false⟩, some (1000, 0))] [] ⟨⟨rfl, _, rfl, rfl, rfl, rfl, id, rowsCv_eq rfl (allFree_map recV_free), rowsZ_map recV_len⟩, trivial⟩ trivial rfl rfl ?_
        exact ⟨(.ref rfl), (.free rfl), (.free rfl), (.free rfl), (cvFn hf4), (.free rfl), (.free rfl), (.free rfl), (.free rfl), trivial⟩
       ·replace h := cond_f h b5
        refine s_skip rfl rfl rfl ?_
        refine s_skip rfl rfl rfl ?_
        refine s_skip rfl rfl rfl ?_
        refine s_pickF rfl rfl (v := .sc (.bool false)) rfl rfl rfl rfl ?_
        refine rt_nil ?_
        refine Exists.intro ⟨false, h⟩ ?_
        refine entX [((1000, 0), ⟨39, 6, List.map recV p0, false, false⟩, some (1000, 0))] [] ⟨⟨rfl, _, rfl, rfl, rfl, rfl, id, rowsCv_eq rfl (allFree_map recV_free), rowsZ_map recV_len⟩, trivial⟩ trivial rfl rfl ?_
        exact ⟨(.ref rfl), (.free rfl), (.free rfl), (.free rfl), (cvFn hf4), (.free rfl), (.free rfl), (.free rfl), (.free rfl), trivial⟩
      ·rintro ⟨j12_0, h⟩
       replace h : slices_symMergeCmpFunc_Record_j12 p0 p1 p2 p3 p4 j9_0 j12_0 = some r0 := h
       unfold slices_symMergeCmpFunc_Record_j12 at h
       show Tri _ _ _ (inv_slices_symMergeCmpFunc_Record_12 p0 p1 p2 p3 fi4 cp4 j9_0 j12_0)
       refine tri_cond rfl (fun c5 => ?_) (fun c5 => ?_)
       ·replace h := cond_t h c5
        refine tri_region ?_
        refine m1 ?_
        refine m1 ?_
        refine m1 ?_
        refine m1 ?_
        refine m1 ?_
        refine bnd1_elim h fun x6 q7 h => ?_
        refine grd_elim h fun g8 h => ?_
        refine s_callN (kb := []) (ns := [(1000, 0)]) (v := .tup []) rfl rfl cl212 (wslices_rotateCmpFunc_Record p0 j9_0 p2 (((IntKind.i64.wrap (ishr .u64 (IntKind.u64.wrap (p1 + p3)) 1)) + p2) - j9_0) fi4 cp4 hf4 hb4 p4 hg4 x6 q7) rfl (.cons (.refOwn rfl) (.cons (.free rfl) (.cons (.free rfl) (.cons (.free rfl) (.cons (relFn hf4) .nil))))) ⟨⟨_, rfl, rfl⟩, trivial⟩ (memCons (allFree_map recV_free) memNil) (List.nodup_cons.2 ⟨List.not_mem_nil, .nil⟩) memNil rfl trivial (memCons (allSc_map recV_sc) memNil) rfl rfl rfl rfl rfl rfl ?_
        refine rt_nil ?_
        refine Exists.intro ⟨x6, h⟩ ?_
        refine entX [((1000, 0), ⟨39, 6, List.map recV x6, false, false⟩, some (1000, 0))] [] ⟨⟨rfl, _, rfl, rfl, rfl, rfl, id, rowsCv_eq rfl (allFree_map recV_free), rowsZ_map recV_len⟩, trivial⟩ trivial rfl rfl ?_
        exact ⟨(cvRefLen rfl (by simp only [List.length_set, g8])), (.free rfl), (.free rfl), (cvFn hf4), (.free rfl), (.free rfl), (.free rfl), trivial⟩
       ·replace h := cond_f h c5
        refine tri_skip ?_
        refine Exists.intro ⟨p0, h⟩ ?_
        refine entX [((1000, 0), ⟨39, 6, List.map recV p0, false, false⟩, some (1000, 0))] [] ⟨⟨rfl, _, rfl, rfl, rfl, rfl, id, rowsCv_eq rfl (allFree_map recV_free), rowsZ_map recV_len⟩, trivial⟩ trivial rfl rfl ?_
        exact ⟨(.ref rfl), (.free rfl), (.free rfl), (cvFn hf4), (.free rfl), (.free rfl), (.free rfl), trivial⟩
     ·rintro ⟨j11_0, h⟩
      replace h : slices_symMergeCmpFunc_Record_j11 p1 p2 p3 j9_0 j11_0 = some r0 := h
      unfold slices_symMergeCmpFunc_Record_j11 at h
      show Tri _ _ _ (inv_slices_symMergeCmpFunc_Record_11 p1 p2 p3 fi4 cp4 j9_0 j11_0)
      refine tri_seq ?_
      refine tri_cutI (ι := { p : Bool // slices_symMergeCmpFunc_Record_j13 p1 p2 p3 j9_0 j11_0 p = some r0 }) (fun p => inv_slices_symMergeCmpFunc_Record_13 p1 p2 p3 fi4 cp4 j9_0 j11_0 p.1) ?_ ?_
      ·skip
       refine tri_region ?_
       refine m1 ?_
       refine m1 ?_
       refine s_of (st_lss rfl rfl rfl) rfl rfl rfl rfl ?_
       refine m1 ?_
       refine s_split (t := 195) rfl (fun b5 => ?_) (fun b5 => ?_)
       ·replace h := cond_t h b5
        refine m1 ?_
        refine m1 ?_
        refine s_of (st_lss rfl rfl rfl) rfl rfl rfl rfl ?_
        refine s_pickT rfl rfl (by conv => lhs; whnf) rfl rfl rfl ?_
        refine rt_nil ?_
        refine Exists.intro ⟨decide (j9_0 < IntKind.i64.wrap (ishr .u64 (IntKind.u64.wrap (p1 + p3)) 1)), h⟩ ?_
        refine entX [((1000, 0), ⟨39, 6, List.map recV j11_0, false, false⟩, some (1000, 0))] [] ⟨⟨rfl, _, rfl, rfl, rfl, rfl, id, rowsCv_eq rfl (allFree_map recV_free), rowsZ_map recV_len⟩, trivial⟩ trivial rfl rfl ?_
        exact ⟨(.ref rfl), (.free rfl), (.free rfl), (cvFn hf4), (.free rfl), (.free rfl), (.free rfl), (.free rfl), trivial⟩
       ·replace h := cond_f h b5
        refine s_skip rfl rfl rfl ?_
        refine s_skip rfl rfl rfl ?_
        refine s_skip rfl rfl rfl ?_
        refine s_pickF rfl rfl (v := .sc (.bool false)) rfl rfl rfl rfl ?_
        refine rt_nil ?_
        refine Exists.intro ⟨false, h⟩ ?_
        refine entX [((1000, 0), ⟨39, 6, List.map recV j11_0, false, false⟩, some (1000, 0))] [] ⟨⟨rfl, _, rfl, rfl, rfl, rfl, id, rowsCv_eq rfl (allFree_map recV_free), rowsZ_map recV_len⟩, trivial⟩ trivial rfl rfl ?_
        exact ⟨(.ref rfl), (.free rfl), (.free rfl), (cvFn hf4), (.free rfl), (.free rfl), (.free rfl), (.free rfl), trivial⟩
      ·rintro ⟨j13_0, h⟩
       replace h : slices_symMergeCmpFunc_Record_j13 p1 p2 p3 j9_0 j11_0 j13_0 = some r0 := h
       unfold slices_symMergeCmpFunc_Record_j13 at h
       show Tri _ _ _ (inv_slices_symMergeCmpFunc_Record_13 p1 p2 p3 fi4 cp4 j9_0 j11_0 j13_0)
       refine tri_cond rfl (fun c5 => ?_) (fun c5 => ?_)
       ·replace h := cond_t h c5
        refine tri_region ?_
        refine m1 ?_
        refine m1 ?_
        refine m1 ?_
        refine m1 ?_
        refine m1 ?_
        cases h
       ·replace h := cond_f h c5
        refine tri_skip ?_
        refine tri_cutI (ι := { p : Bool // slices_symMergeCmpFunc_Record_j14 j11_0 p = some r0 }) (fun p => inv_slices_symMergeCmpFunc_Record_14 p1 p2 p3 fi4 cp4 j9_0 j11_0 p.1) ?_ ?_
        ·skip
         refine tri_region ?_
         refine m1 ?_
         refine m1 ?_
         refine s_of (st_lss rfl rfl rfl) rfl rfl rfl rfl ?_
         refine m1 ?_
         refine s_split (t := 209) rfl (fun b6 => ?_) (fun b6 => ?_)
         ·replace h := cond_t h b6
          refine m1 ?_
          refine m1 ?_
          refine s_of (st_lss rfl rfl rfl) rfl rfl rfl rfl ?_
          refine s_pickT rfl rfl (by conv => lhs; whnf) rfl rfl rfl ?_
          refine rt_nil ?_
          refine Exists.intro ⟨decide (((IntKind.i64.wrap (ishr .u64 (IntKind.u64.wrap (p1 + p3)) 1)) + p2) - j9_0 < p3), h⟩ ?_
          refine entX [((1000, 0), ⟨39, 6, List.map recV j11_0, false, false⟩, some (1000, 0))] [] ⟨⟨rfl, _, rfl, rfl, rfl, rfl, id, rowsCv_eq rfl (allFree_map recV_free), rowsZ_map recV_len⟩, trivial⟩ trivial rfl rfl ?_
          exact ⟨(.ref rfl), (.free rfl), (cvFn hf4), (.free rfl), (.free rfl), (.free rfl), trivial⟩
         ·replace h := cond_f h b6
          refine s_skip rfl rfl rfl ?_
          refine s_skip rfl rfl rfl ?_
          refine s_skip rfl rfl rfl ?_
          refine s_pickF rfl rfl (v := .sc (.bool false)) rfl rfl rfl rfl ?_
          refine rt_nil ?_
          refine Exists.intro ⟨false, h⟩ ?_
          refine entX [((1000, 0), ⟨39, 6, List.map recV j11_0, false, false⟩, some (1000, 0))] [] ⟨⟨rfl, _, rfl, rfl, rfl, rfl, id, rowsCv_eq rfl (allFree_map recV_free), rowsZ_map recV_len⟩, trivial⟩ trivial rfl rfl ?_
          exact ⟨(.ref rfl), (.free rfl), (cvFn hf4), (.free rfl), (.free rfl), (.free rfl), trivial⟩
        ·rintro ⟨j14_0, h⟩
         replace h : slices_symMergeCmpFunc_Record_j14 j11_0 j14_0 = some r0 := h
         unfold slices_symMergeCmpFunc_Record_j14 at h
         show Tri _ _ _ (inv_slices_symMergeCmpFunc_Record_14 p1 p2 p3 fi4 cp4 j9_0 j11_0 j14_0)
         refine tri_cond rfl (fun c6 => ?_) (fun c6 => ?_)
         ·replace h := cond_t h c6
          refine tri_region ?_
          refine m1 ?_
          refine m1 ?_
          refine m1 ?_
          refine m1 ?_
          refine m1 ?_
          cases h
         ·replace h := cond_f h c6
          refine tri_skip ?_
          have e0 := (some1 h); subst e0
          exact endY [((1000, 0), ⟨39, 6, List.map recV j11_0, false, false⟩, some (1000, 0))] [] rvN ⟨⟨rfl, _, rfl, rfl, rfl, rfl, id, rowsCv_eq rfl (allFree_map recV_free), rowsZ_map recV_len⟩, trivial⟩ trivial rfl rfl (by kernel_rfl) rfl (CvL.tup .nil)

/- impl.Record] -/
def inv_slices_stableCmpFunc_Record_4 (p1 : Int) (fi2 : FuncId) (cp2 : List V) (v2_1 : Int) (v4_0 : List Rec) (v4_1 : Int) (v4_2 : Int) : St := mkT 63 [(0, .ref (1000, 0) 0 v4_0.length), (1, .sc (.int .i64 p1)), (2, .fn fi2 cp2), (6, .sc (.int .i64 v2_1)), (7, .sc (.int .i64 v4_1)), (8, .sc (.int .i64 v4_2))] [((1000, 0), some ⟨39, 6, List.map recV v4_0, false, false⟩)]
def inv_slices_stableCmpFunc_Record_3 (p1 : Int) (fi2 : FuncId) (cp2 : List V) (v2_1 : Int) (j3_0 : List Rec) (j3_1 : Int) : St := mkT 63 [(0, .ref (1000, 0) 0 j3_0.length), (1, .sc (.int .i64 p1)), (2, .fn fi2 cp2), (6, .sc (.int .i64 v2_1)), (7, .sc (.int .i64 j3_1))] [((1000, 0), some ⟨39, 6, List.map recV j3_0, false, false⟩)]
def inv_slices_stableCmpFunc_Record_2 (p1 : Int) (fi2 : FuncId) (cp2 : List V) (v2_0 : List Rec) (v2_1 : Int) : St := mkT 63 [(0, .ref (1000, 0) 0 v2_0.length), (1, .sc (.int .i64 p1)), (2, .fn fi2 cp2), (6, .sc (.int .i64 v2_1))] [((1000, 0), some ⟨39, 6, List.map recV v2_0, false, false⟩)]
def inv_slices_stableCmpFunc_Record_1 (p1 : Int) (fi2 : FuncId) (cp2 : List V) (v1_0 : List Rec) (v1_1 : Int) (v1_2 : Int) : St := mkT 63 [(0, .ref (1000, 0) 0 v1_0.length), (1, .sc (.int .i64 p1)), (2, .fn fi2 cp2), (6, .sc (.int .i64 20)), (7, .sc (.int .i64 v1_1)), (8, .sc (.int .i64 v1_2))] [((1000, 0), some ⟨39, 6, List.map recV v1_0, false, false⟩)]
def inv_slices_stableCmpFunc_Record_0 (p1 : Int) (fi2 : FuncId) (cp2 : List V) (j0_0 : List Rec) (j0_1 : Int) : St := mkT 63 [(0, .ref (1000, 0) 0 j0_0.length), (1, .sc (.int .i64 p1)), (2, .fn fi2 cp2), (6, .sc (.int .i64 20)), (7, .sc (.int .i64 j0_1))] [((1000, 0), some ⟨39, 6, List.map recV j0_0, false, false⟩)]
set_option maxRecDepth 4000 in
set_option maxHeartbeats 800000 in
theorem wslices_stableCmpFunc_Record (p0 : List Rec) (p1 : Int) (fi2 : FuncId) (cp2 : List V) (hf2 : cp2.all (·.free) = true) (hb2 : callable Tryd.prog fi2 = true) (p2 : Rec → Rec → Option Int) (hg2 : ∀ (z0 : Rec) (z1 : Rec) v, p2 z0 z1 = some v → Runs Tryd.prog fi2 ([.agg (recV z0), .agg (recV z1)] ++ cp2) [] (.sc (.int .i64 v)) []) (r0 : List Rec) (h : slices_stableCmpFunc_Record p0 p1 p2 = some r0) : Runs Tryd.prog 171 [.ref (1000, 0) 0 p0.length, .sc (.int .i64 p1), .fn fi2 cp2] [⟨39, 6, List.map recV p0, false, false⟩] (.tup []) [⟨39, 6, List.map recV r0, false, false⟩] := by
 unfold slices_stableCmpFunc_Record at h
 refine runsR [] Tryd.func171 rfl rfl rfl rfl ?_
 rw [Tryd.ntmps171]
 refine tri_sr ?_
 refine s_mv (.inr rfl) (v := .sc (.int .i64 20)) rfl rfl rfl rfl ?_
 refine rt_nil ?_
 refine tri_sr ?_
 refine m1 ?_
 refine s_mv (.inr rfl) (v := .sc (.int .i64 0)) rfl rfl rfl rfl ?_
 refine m2 ?_
 refine rt_nil ?_
 refine tri_cutI (ι := { p : (List Rec) × Int // slices_stableCmpFunc_Record_j0 p1 p2 p.1 p.2 = some r0 }) (fun p => inv_slices_stableCmpFunc_Record_0 p1 fi2 cp2 p.1.1 p.1.2) ?_ ?_
 ·skip
  refine tri_block ?_
  refine tri_loop (ι := { p : Nat × (List Rec) × Int × Int // slices_stableCmpFunc_Record_l1 p1 p2 p.1 p.2.1 p.2.2.1 p.2.2.2 = some r0 }) (fun p => inv_slices_stableCmpFunc_Record_1 p1 fi2 cp2 p.1.2.1 p.1.2.2.1 p.1.2.2.2) (fun p => p.1.1) ⟨(fuel0, p0, 0, 20), h⟩ ?_ ?_
  ·skip
   refine entX [((1000, 0), ⟨39, 6, List.map recV p0, false, false⟩, some (1000, 0))] [] ⟨⟨rfl, _, rfl, rfl, rfl, rfl, id, rowsCv_eq rfl (allFree_map recV_free), rowsZ_map recV_len⟩, trivial⟩ trivial rfl rfl ?_
   exact ⟨(.ref rfl), (.free rfl), (cvFn hf2), (.free rfl), (.free rfl), (.free rfl), trivial⟩
  ·rintro ⟨⟨f1, v1_0, v1_1, v1_2⟩, h⟩
   replace h : slices_stableCmpFunc_Record_l1 p1 p2 f1 v1_0 v1_1 v1_2 = some r0 := h
   cases f1 with
   | zero => cases h
   | succ f1 =>
   rw [slices_stableCmpFunc_Record_l1] at h
   show Tri _ _ _ (inv_slices_stableCmpFunc_Record_1 p1 fi2 cp2 v1_0 v1_1 v1_2)
   refine tri_seq ?_
   refine tri_sr ?_
   refine m1 ?_
   refine m1 ?_
   refine s_of (st_leq rfl rfl rfl) rfl rfl rfl rfl ?_
   refine rt_nil ?_
   refine tri_cond rfl (fun c1 => ?_) (fun c1 => ?_)
   ·replace h := cond_t h c1
    refine tri_skip ?_
    refine tri_block ?_
    refine tri_sr ?_
    refine m1 ?_
    refine m1 ?_
    refine m1 ?_
    refine m1 ?_
    refine bnd1_elim h fun x2 q3 h => ?_
    refine grd_elim h fun g4 h => ?_
    refine s_callN (kb := []) (ns := [(1000, 0)]) (v := .tup []) rfl rfl cl196 (wslices_insertionSortCmpFunc_Record v1_0 v1_1 v1_2 fi2 cp2 hf2 hb2 p2 hg2 x2 q3) rfl (.cons (.refOwn rfl) (.cons (.free rfl) (.cons (.free rfl) (.cons (relFn hf2) .nil)))) ⟨⟨_, rfl, rfl⟩, trivial⟩ (memCons (allFree_map recV_free) memNil) (List.nodup_cons.2 ⟨List.not_mem_nil, .nil⟩) memNil rfl trivial (memCons (allSc_map recV_sc) memNil) rfl rfl rfl rfl rfl rfl ?_
    refine rt_nil ?_
    refine tri_sr ?_
    refine m1 ?_
    refine m2 ?_
    refine rt_nil ?_
    refine tri_region ?_
    refine m1 ?_
    refine m1 ?_
    refine grd_elim h fun g5 h => ?_
    refine s_addI rfl rfl rfl rfl g5 rfl rfl rfl ?_
    refine m2 ?_
    refine rt_nil ?_
    refine Exists.intro ⟨(f1, x2, v1_2, v1_2 + 20), h⟩ (And.intro (Nat.lt_succ_self _) ?_)
    refine entX [((1000, 0), ⟨39, 6, List.map recV x2, false, false⟩, some (1000, 0))] [] ⟨⟨rfl, _, rfl, rfl, rfl, rfl, id, rowsCv_eq rfl (allFree_map recV_free), rowsZ_map recV_len⟩, trivial⟩ trivial rfl rfl ?_
    exact ⟨(cvRefLen rfl (by simp only [List.length_set, g4])), (.free rfl), (cvFn hf2), (.free rfl), (.free rfl), (.free rfl), trivial⟩
   ·replace h := cond_f h c1
    refine tri_exit ?_
    refine Exists.intro ⟨(v1_0, v1_1), h⟩ ?_
    refine entX [((1000, 0), ⟨39, 6, List.map recV v1_0, false, false⟩, some (1000, 0))] [] ⟨⟨rfl, _, rfl, rfl, rfl, rfl, id, rowsCv_eq rfl (allFree_map recV_free), rowsZ_map recV_len⟩, trivial⟩ trivial rfl rfl ?_
    exact ⟨(.ref rfl), (.free rfl), (cvFn hf2), (.free rfl), (.free rfl), trivial⟩
 ·rintro ⟨⟨j0_0, j0_1⟩, h⟩
  replace h : slices_stableCmpFunc_Record_j0 p1 p2 j0_0 j0_1 = some r0 := h
  unfold slices_stableCmpFunc_Record_j0 at h
  show Tri _ _ _ (inv_slices_stableCmpFunc_Record_0 p1 fi2 cp2 j0_0 j0_1)
  refine tri_sr ?_
  refine m1 ?_
  refine m1 ?_
  refine m1 ?_
  refine m1 ?_
  refine bnd1_elim h fun x1 q2 h => ?_
  refine grd_elim h fun g3 h => ?_
  refine s_callN (kb := []) (ns := [(1000, 0)]) (v := .tup []) rfl rfl cl196 (wslices_insertionSortCmpFunc_Record j0_0 j0_1 p1 fi2 cp2 hf2 hb2 p2 hg2 x1 q2) rfl (.cons (.refOwn rfl) (.cons (.free rfl) (.cons (.free rfl) (.cons (relFn hf2) .nil)))) ⟨⟨_, rfl, rfl⟩, trivial⟩ (memCons (allFree_map recV_free) memNil) (List.nodup_cons.2 ⟨List.not_mem_nil, .nil⟩) memNil rfl trivial (memCons (allSc_map recV_sc) memNil) rfl rfl rfl rfl rfl rfl ?_
  refine rt_nil ?_
  refine tri_block ?_
  refine tri_loop (ι := { p : Nat × (List Rec) × Int // slices_stableCmpFunc_Record_l2 p1 p2 p.1 p.2.1 p.2.2 = some r0 }) (fun p => inv_slices_stableCmpFunc_Record_2 p1 fi2 cp2 p.1.2.1 p.1.2.2) (fun p => p.1.1) ⟨(fuel0, x1, 20), h⟩ ?_ ?_
  ·skip
   refine entX [((1000, 0), ⟨39, 6, List.map recV x1, false, false⟩, some (1000, 0))] [] ⟨⟨rfl, _, rfl, rfl, rfl, rfl, id, rowsCv_eq rfl (allFree_map recV_free), rowsZ_map recV_len⟩, trivial⟩ trivial rfl rfl ?_
   exact ⟨(cvRefLen rfl (by simp only [List.length_set, g3])), (.free rfl), (cvFn hf2), (.free rfl), trivial⟩
  ·rintro ⟨⟨f2, v2_0, v2_1⟩, h⟩
   replace h : slices_stableCmpFunc_Record_l2 p1 p2 f2 v2_0 v2_1 = some r0 := h
   cases f2 with
   | zero => cases h
   | succ f2 =>
   rw [slices_stableCmpFunc_Record_l2] at h
   show Tri _ _ _ (inv_slices_stableCmpFunc_Record_2 p1 fi2 cp2 v2_0 v2_1)
   refine tri_seq ?_
   refine tri_sr ?_
   refine m1 ?_
   refine m1 ?_
   refine s_of (st_lss rfl rfl rfl) rfl rfl rfl rfl ?_
   refine rt_nil ?_
   refine tri_cond rfl (fun c4 => ?_) (fun c4 => ?_)
   ·replace h := cond_t h c4
    refine tri_skip ?_
    refine tri_block ?_
    refine tri_sr ?_
    refine m1 ?_
    refine grd_elim h fun g5 h => ?_
    refine s_mulI rfl rfl rfl rfl g5 rfl rfl rfl ?_
    refine s_mv (.inr rfl) (v := .sc (.int .i64 0)) rfl rfl rfl rfl ?_
    refine m2 ?_
    refine rt_nil ?_
    refine tri_cutI (ι := { p : (List Rec) × Int // slices_stableCmpFunc_Record_j3 p1 p2 v2_1 (slices_stableCmpFunc_Record_l2 p1 p2 f2) p.1 p.2 = some r0 }) (fun p => inv_slices_stableCmpFunc_Record_3 p1 fi2 cp2 v2_1 p.1.1 p.1.2) ?_ ?_
    ·skip
     refine tri_block ?_
     refine tri_loop (ι := { p : Nat × (List Rec) × Int × Int // slices_stableCmpFunc_Record_l4 p1 p2 v2_1 (slices_stableCmpFunc_Record_l2 p1 p2 f2) p.1 p.2.1 p.2.2.1 p.2.2.2 = some r0 }) (fun p => inv_slices_stableCmpFunc_Record_4 p1 fi2 cp2 v2_1 p.1.2.1 p.1.2.2.1 p.1.2.2.2) (fun p => p.1.1) ⟨(fuel0, v2_0, 0, 2 * v2_1), h⟩ ?_ ?_
     ·skip
      refine entX [((1000, 0), ⟨39, 6, List.map recV v2_0, false, false⟩, some (1000, 0))] [] ⟨⟨rfl, _, rfl, rfl, rfl, rfl, id, rowsCv_eq rfl (allFree_map recV_free), rowsZ_map recV_len⟩, trivial⟩ trivial rfl rfl ?_
      exact ⟨(.ref rfl), (.free rfl), (cvFn hf2), (.free rfl), (.free rfl), (.free rfl), trivial⟩
     ·rintro ⟨⟨f4, v4_0, v4_1, v4_2⟩, h⟩
      replace h : slices_stableCmpFunc_Record_l4 p1 p2 v2_1 (slices_stableCmpFunc_Record_l2 p1 p2 f2) f4 v4_0 v4_1 v4_2 = some r0 := h
      cases f4 with
      | zero => cases h
      | succ f4 =>
      rw [slices_stableCmpFunc_Record_l4] at h
      show Tri _ _ _ (inv_slices_stableCmpFunc_Record_4 p1 fi2 cp2 v2_1 v4_0 v4_1 v4_2)
      refine tri_seq ?_
      refine tri_sr ?_
      refine m1 ?_
      refine m1 ?_
      refine s_of (st_leq rfl rfl rfl) rfl rfl rfl rfl ?_
      refine rt_nil ?_
      refine tri_cond rfl (fun c6 => ?_) (fun c6 => ?_)
      ·replace h := cond_t h c6
       refine tri_skip ?_
       refine tri_block ?_
       refine tri_sr ?_
       refine m1 ?_
       refine m1 ?_
       refine m1 ?_
       refine m1 ?_
       refine grd_elim h fun g7 h => ?_
       refine s_addI rfl rfl rfl rfl g7 rfl rfl rfl ?_
       refine m1 ?_
       refine m1 ?_
       refine bnd1_elim h fun x8 q9 h => ?_
       refine grd_elim h fun g10 h => ?_
       refine s_callN (kb := []) (ns := [(1000, 0)]) (v := .tup []) rfl rfl cl197 (wslices_symMergeCmpFunc_Record v4_0 v4_1 (v4_1 + v2_1) v4_2 fi2 cp2 hf2 hb2 p2 hg2 x8 q9) rfl (.cons (.refOwn rfl) (.cons (.free rfl) (.cons (.free rfl) (.cons (.free rfl) (.cons (relFn hf2) .nil))))) ⟨⟨_, rfl, rfl⟩, trivial⟩ (memCons (allFree_map recV_free) memNil) (List.nodup_cons.2 ⟨List.not_mem_nil, .nil⟩) memNil rfl trivial (memCons (allSc_map recV_sc) memNil) rfl rfl rfl rfl rfl rfl ?_
       refine rt_nil ?_
       refine tri_sr ?_
       refine m1 ?_
       refine m2 ?_
       refine rt_nil ?_
       refine tri_region ?_
       refine m1 ?_
       refine m1 ?_
       refine grd_elim h fun g11 h => ?_
       refine s_mulI rfl rfl rfl rfl g11 rfl rfl rfl ?_
       refine grd_elim h fun g12 h => ?_
       refine s_addI rfl rfl rfl rfl g12 rfl rfl rfl ?_
       refine m2 ?_
       refine rt_nil ?_
       refine Exists.intro ⟨(f4, x8, v4_2, v4_2 + (2 * v2_1)), h⟩ (And.intro (Nat.lt_succ_self _) ?_)
       refine entX [((1000, 0), ⟨39, 6, List.map recV x8, false, false⟩, some (1000, 0))] [] ⟨⟨rfl, _, rfl, rfl, rfl, rfl, id, rowsCv_eq rfl (allFree_map recV_free), rowsZ_map recV_len⟩, trivial⟩ trivial rfl rfl ?_
       exact ⟨(cvRefLen rfl (by simp only [List.length_set, g10])), (.free rfl), (cvFn hf2), (.free rfl), (.free rfl), (.free rfl), trivial⟩
      ·replace h := cond_f h c6
       refine tri_exit ?_
       refine Exists.intro ⟨(v4_0, v4_1), h⟩ ?_
       refine entX [((1000, 0), ⟨39, 6, List.map recV v4_0, false, false⟩, some (1000, 0))] [] ⟨⟨rfl, _, rfl, rfl, rfl, rfl, id, rowsCv_eq rfl (allFree_map recV_free), rowsZ_map recV_len⟩, trivial⟩ trivial rfl rfl ?_
       exact ⟨(.ref rfl), (.free rfl), (cvFn hf2), (.free rfl), (.free rfl), trivial⟩
    ·rintro ⟨⟨j3_0, j3_1⟩, h⟩
     replace h : slices_stableCmpFunc_Record_j3 p1 p2 v2_1 (slices_stableCmpFunc_Record_l2 p1 p2 f2) j3_0 j3_1 = some r0 := h
     unfold slices_stableCmpFunc_Record_j3 at h
     show Tri _ _ _ (inv_slices_stableCmpFunc_Record_3 p1 fi2 cp2 v2_1 j3_0 j3_1)
     refine tri_seq ?_
     refine tri_sr ?_
     refine m1 ?_
     refine m1 ?_
     refine grd_elim h fun g6 h => ?_
     refine s_addI rfl rfl rfl rfl g6 rfl rfl rfl ?_
     refine m2 ?_
     refine rt_nil ?_
     refine tri_sr ?_
     refine m1 ?_
     refine m1 ?_
     refine s_of (st_lss rfl rfl rfl) rfl rfl rfl rfl ?_
     refine rt_nil ?_
     refine tri_cond rfl (fun c7 => ?_) (fun c7 => ?_)
     ·replace h := cond_t h c7
      refine tri_region ?_
      refine m1 ?_
      refine m1 ?_
      refine m1 ?_
      refine m1 ?_
      refine m1 ?_
      refine bnd1_elim h fun x8 q9 h => ?_
      refine grd_elim h fun g10 h => ?_
      refine s_callN (kb := []) (ns := [(1000, 0)]) (v := .tup []) rfl rfl cl197 (wslices_symMergeCmpFunc_Record j3_0 j3_1 (j3_1 + v2_1) p1 fi2 cp2 hf2 hb2 p2 hg2 x8 q9) rfl (.cons (.refOwn rfl) (.cons (.free rfl) (.cons (.free rfl) (.cons (.free rfl) (.cons (relFn hf2) .nil))))) ⟨⟨_, rfl, rfl⟩, trivial⟩ (memCons (allFree_map recV_free) memNil) (List.nodup_cons.2 ⟨List.not_mem_nil, .nil⟩) memNil rfl trivial (memCons (allSc_map recV_sc) memNil) rfl rfl rfl rfl rfl rfl ?_
      refine rt_nil ?_
      refine tri_region ?_
      refine m1 ?_
      refine grd_elim h fun g11 h => ?_
      refine s_mulI rfl rfl rfl rfl g11 rfl rfl rfl ?_
      refine m2 ?_
      refine rt_nil ?_
      refine Exists.intro ⟨(f2, x8, v2_1 * 2), h⟩ (And.intro (Nat.lt_succ_self _) ?_)
      refine entX [((1000, 0), ⟨39, 6, List.map recV x8, false, false⟩, some (1000, 0))] [] ⟨⟨rfl, _, rfl, rfl, rfl, rfl, id, rowsCv_eq rfl (allFree_map recV_free), rowsZ_map recV_len⟩, trivial⟩ trivial rfl rfl ?_
      exact ⟨(cvRefLen rfl (by simp only [List.length_set, g10])), (.free rfl), (cvFn hf2), (.free rfl), trivial⟩
     ·replace h := cond_f h c7
      refine tri_skip ?_
      refine tri_region ?_
      refine m1 ?_
      refine grd_elim h fun g12 h => ?_
      refine s_mulI rfl rfl rfl rfl g12 rfl rfl rfl ?_
      refine m2 ?_
      refine rt_nil ?_
      refine Exists.intro ⟨(f2, j3_0, v2_1 * 2), h⟩ (And.intro (Nat.lt_succ_self _) ?_)
      refine entX [((1000, 0), ⟨39, 6, List.map recV j3_0, false, false⟩, some (1000, 0))] [] ⟨⟨rfl, _, rfl, rfl, rfl, rfl, id, rowsCv_eq rfl (allFree_map recV_free), rowsZ_map recV_len⟩, trivial⟩ trivial rfl rfl ?_
      exact ⟨(.ref rfl), (.free rfl), (cvFn hf2), (.free rfl), trivial⟩
   ·replace h := cond_f h c4
    refine tri_exit ?_
    have e0 := (some1 h); subst e0
    exact endY [((1000, 0), ⟨39, 6, List.map recV v2_0, false, false⟩, some (1000, 0))] [] rvN ⟨⟨rfl, _, rfl, rfl, rfl, rfl, id, rowsCv_eq rfl (allFree_map recV_free), rowsZ_map recV_len⟩, trivial⟩ trivial rfl rfl (by kernel_rfl) rfl (CvL.tup .nil)

/- impl.Record] -/

set_option maxRecDepth 4000 in
set_option maxHeartbeats 800000 in
theorem wslices_SortStableFunc_Record (p0 : List Rec) (fi1 : FuncId) (cp1 : List V) (hf1 : cp1.all (·.free) = true) (hb1 : callable Tryd.prog fi1 = true) (p1 : Rec → Rec → Option Int) (hg1 : ∀ (z0 : Rec) (z1 : Rec) v, p1 z0 z1 = some v → Runs Tryd.prog fi1 ([.agg (recV z0), .agg (recV z1)] ++ cp1) [] (.sc (.int .i64 v)) []) (r0 : List Rec) (h : slices_SortStableFunc_Record p0 p1 = some r0) : Runs Tryd.prog 125 [.ref (1000, 0) 0 p0.length, .fn fi1 cp1] [⟨39, 6, List.map recV p0, false, false⟩] (.tup []) [⟨39, 6, List.map recV r0, false, false⟩] := by
 unfold slices_SortStableFunc_Record at h
 refine runsR [] Tryd.func125 rfl rfl rfl rfl ?_
 rw [Tryd.ntmps125]
 refine tri_region ?_
 refine m1 ?_
 refine m1 ?_
 refine s_len (m := p0.length) rfl sl24 rfl rfl rfl rfl ?_
 refine m1 ?_
 refine bnd1_elim h fun x1 q2 h => ?_
 refine grd_elim h fun g3 h => ?_
 refine s_callN (kb := []) (ns := [(1000, 0)]) (v := .tup []) rfl rfl cl171 (wslices_stableCmpFunc_Record p0 (p0.length : Int) fi1 cp1 hf1 hb1 p1 hg1 x1 q2) rfl (.cons (.refOwn rfl) (.cons (.free rfl) (.cons (relFn hf1) .nil))) ⟨⟨_, rfl, rfl⟩, trivial⟩ (memCons (allFree_map recV_free) memNil) (List.nodup_cons.2 ⟨List.not_mem_nil, .nil⟩) memNil rfl trivial (memCons (allSc_map recV_sc) memNil) rfl rfl rfl rfl rfl rfl ?_
 refine rt_nil ?_
 have e0 := (some1 h); subst e0
 exact endY [((1000, 0), ⟨39, 6, List.map recV x1, false, false⟩, some (1000, 0))] [] rvN ⟨⟨rfl, _, rfl, rfl, rfl, rfl, id, rowsCv_eq rfl (allFree_map recV_free), rowsZ_map recV_len⟩, trivial⟩ trivial rfl rfl (by kernel_rfl) rfl (CvL.tup .nil)

/- stringslite.IndexByte -/

set_option maxRecDepth 4000 in
set_option maxHeartbeats 800000 in
theorem winternal_stringslite_IndexByte (p0 : ByteArray) (p1 : Int) (r0 : Int) (h : internal_stringslite_IndexByte p0 p1 = some r0) : Runs Tryd.prog 226 [.sc (.string p0), .sc (.int .u8 p1)] [] (.sc (.int .i64 r0)) [] := by
 unfold internal_stringslite_IndexByte at h
 refine runsR [.tmp 4] Tryd.func226 rfl rfl rfl rfl ?_
 rw [Tryd.ntmps226]
 refine tri_sr ?_
 refine s_mv (.inr rfl) (v := .sc (.int .i64 0)) rfl rfl rfl rfl ?_
 refine rt_nil ?_
 refine tri_sr ?_
 refine m1 ?_
 refine m1 ?_
 refine s_idxByteString rfl rfl rfl Tryd.func230 (by kernel_rfl) (by kernel_rfl) (by kernel_rfl) (by kernel_rfl) rfl rfl rfl ?_
 refine m2 ?_
 refine rt_nil ?_
 refine tri_ret ?_
 have e0 := (some1 h); subst e0
 exact endY [] [] (rvC (resTmp rfl) rvN) trivial trivial rfl rfl rfl rfl (.free rfl)

/- stringslite.Index -/
def inv_internal_stringslite_Index_0 (p0 : ByteArray) (p1 : ByteArray) (j0_0 : Bool) : St := mkT 143 [(0, .sc (.string p0)), (1, .sc (.string p1)), (5, .sc (.int .i64 (p1.size : Int))), (16, .sc (.bool j0_0))] []
set_option maxRecDepth 4000 in
set_option maxHeartbeats 800000 in
theorem winternal_stringslite_Index (p0 : ByteArray) (p1 : ByteArray) (r0 : Int) (h : internal_stringslite_Index p0 p1 = some r0) : Runs Tryd.prog 221 [.sc (.string p0), .sc (.string p1)] [] (.sc (.int .i64 r0)) [] := by
 unfold internal_stringslite_Index at h
 refine runsR [.tmp 4] Tryd.func221 rfl rfl rfl rfl ?_
 rw [Tryd.ntmps221]
 refine tri_sr ?_
 refine s_mv (.inr rfl) (v := .sc (.int .i64 0)) rfl rfl rfl rfl ?_
 refine rt_nil ?_
 refine tri_sr ?_
 refine m1 ?_
 refine s_of (st_lenS rfl rfl iss9) rfl rfl rfl rfl ?_
 refine m2 ?_
 refine rt_nil ?_
 refine tri_seq ?_
 refine tri_block ?_
 refine tri_cutI (ι := { p : Bool // internal_stringslite_Index_j0 p0 p1 p = some r0 }) (fun p => inv_internal_stringslite_Index_0 p0 p1 p.1) ?_ ?_
 ·skip
  refine tri_region ?_
  refine m1 ?_
  refine s_of (st_eqI rfl rfl rfl) rfl rfl rfl rfl ?_
  refine m1 ?_
  refine s_split (t := 19) rfl (fun b1 => ?_) (fun b1 => ?_)
  ·replace h := cond_t h b1
   refine s_skip rfl rfl rfl ?_
   refine s_skip rfl rfl rfl ?_
   refine s_skip rfl rfl rfl ?_
   refine s_pickT rfl rfl (v := .sc (.bool true)) rfl rfl rfl rfl ?_
   refine m2 ?_
   refine rt_nil ?_
   refine Exists.intro ⟨true, h⟩ ?_
   refine entX [] [] trivial trivial rfl rfl ?_
   exact ⟨(.free rfl), (.free rfl), (.free rfl), (.free rfl), trivial⟩
  ·replace h := cond_f h b1
   refine m1 ?_
   refine m1 ?_
   refine s_of (st_eqS rfl rfl rfl) rfl rfl rfl rfl ?_
   refine s_pickF rfl rfl (by conv => lhs; whnf) rfl rfl rfl ?_
   refine m2 ?_
   refine rt_nil ?_
   refine Exists.intro ⟨decide (p1 = p0), h⟩ ?_
   refine entX [] [] trivial trivial rfl rfl ?_
   exact ⟨(.free rfl), (.free rfl), (.free rfl), (.free rfl), trivial⟩
 ·rintro ⟨j0_0, h⟩
  replace h : internal_stringslite_Index_j0 p0 p1 j0_0 = some r0 := h
  unfold internal_stringslite_Index_j0 at h
  show Tri _ _ _ (inv_internal_stringslite_Index_0 p0 p1 j0_0)
  refine tri_cond rfl (fun c1 => ?_) (fun c1 => ?_)
  ·replace h := cond_t h c1
   refine tri_sr ?_
   refine s_mv (.inr rfl) (v := .sc (.int .i64 0)) rfl rfl rfl rfl ?_
   refine rt_nil ?_
   refine tri_ret ?_
   have e0 := (some1 h); subst e0
   exact endY [] [] (rvC (resTmp rfl) rvN) trivial trivial rfl rfl rfl rfl (.free rfl)
  ·replace h := cond_f h c1
   refine tri_sr ?_
   refine m1 ?_
   refine s_of (st_eqI rfl rfl rfl) rfl rfl rfl rfl ?_
   refine m2 ?_
   refine rt_nil ?_
   refine tri_cond rfl (fun c2 => ?_) (fun c2 => ?_)
   ·replace h := cond_t h c2
    refine tri_sr ?_
    refine m1 ?_
    refine m1 ?_
    refine bnd1_elim h fun x3 q4 h => ?_
    refine s_idxS rfl rfl rfl iss9 q4 rfl rfl rfl ?_
    refine bnd1_elim h fun x5 q6 h => ?_
    refine s_callN (kb := []) (ns := []) (v := .sc (.int .i64 x5)) rfl rfl cl226 (winternal_stringslite_IndexByte p0 x3 x5 q6) rfl (.cons (.free rfl) (.cons (.free rfl) .nil)) trivial memNil .nil memNil rfl trivial memNil rfl rfl rfl rfl rfl rfl ?_
    refine m2 ?_
    refine rt_nil ?_
    refine tri_ret ?_
    have e0 := (some1 h); subst e0
    exact endY [] [] (rvC (resTmp rfl) rvN) trivial trivial rfl rfl rfl rfl (.free rfl)
   ·replace h := cond_f h c2
    refine tri_sr ?_
    refine m1 ?_
    refine m1 ?_
    refine s_of (st_lenS rfl rfl iss9) rfl rfl rfl rfl ?_
    refine s_of (st_geq rfl rfl rfl) rfl rfl rfl rfl ?_
    refine m2 ?_
    refine rt_nil ?_
    refine tri_cond rfl (fun c7 => ?_) (fun c7 => ?_)
    ·replace h := cond_t h c7
     refine tri_sr ?_
     refine s_mv (.inr rfl) (v := .sc (.int .i64 (-1))) rfl rfl rfl rfl ?_
     refine rt_nil ?_
     refine tri_ret ?_
     have e0 := (some1 h); subst e0
     exact endY [] [] (rvC (resTmp rfl) rvN) trivial trivial rfl rfl rfl rfl (.free rfl)
    ·replace h := cond_f h c7
     refine tri_sr ?_
     refine m1 ?_
     cases h

/- strings.Index -/

set_option maxRecDepth 4000 in
set_option maxHeartbeats 800000 in
theorem wstrings_Index (p0 : ByteArray) (p1 : ByteArray) (r0 : Int) (h : strings_Index p0 p1 = some r0) : Runs Tryd.prog 209 [.sc (.string p0), .sc (.string p1)] [] (.sc (.int .i64 r0)) [] := by
 unfold strings_Index at h
 refine runsR [.tmp 4] Tryd.func209 rfl rfl rfl rfl ?_
 rw [Tryd.ntmps209]
 refine tri_sr ?_
 refine s_mv (.inr rfl) (v := .sc (.int .i64 0)) rfl rfl rfl rfl ?_
 refine rt_nil ?_
 refine tri_sr ?_
 refine m1 ?_
 refine m1 ?_
 refine bnd1_elim h fun x1 q2 h => ?_
 refine s_callN (kb := []) (ns := []) (v := .sc (.int .i64 x1)) rfl rfl cl221 (winternal_stringslite_Index p0 p1 x1 q2) rfl (.cons (.free rfl) (.cons (.free rfl) .nil)) trivial memNil .nil memNil rfl trivial memNil rfl rfl rfl rfl rfl rfl ?_
 refine m2 ?_
 refine rt_nil ?_
 refine tri_ret ?_
 have e0 := (some1 h); subst e0
 exact endY [] [] (rvC (resTmp rfl) rvN) trivial trivial rfl rfl rfl rfl (.free rfl)

/- strings.Count -/
def inv_strings_Count_0 (p1 : ByteArray) (v0_0 : ByteArray) (v0_1 : Int) : St := mkT 34 [(0, .sc (.string v0_0)), (1, .sc (.string p1)), (5, .sc (.int .i64 v0_1))] []
set_option maxRecDepth 4000 in
set_option maxHeartbeats 800000 in
theorem wstrings_Count (p0 : ByteArray) (p1 : ByteArray) (r0 : Int) (h : strings_Count p0 p1 = some r0) : Runs Tryd.prog 208 [.sc (.string p0), .sc (.string p1)] [] (.sc (.int .i64 r0)) [] := by
 unfold strings_Count at h
 refine runsR [.tmp 4] Tryd.func208 rfl rfl rfl rfl ?_
 rw [Tryd.ntmps208]
 refine tri_sr ?_
 refine s_mv (.inr rfl) (v := .sc (.int .i64 0)) rfl rfl rfl rfl ?_
 refine rt_nil ?_
 refine tri_seq ?_
 refine tri_sr ?_
 refine m1 ?_
 refine s_of (st_lenS rfl rfl iss9) rfl rfl rfl rfl ?_
 refine s_of (st_eqI rfl rfl rfl) rfl rfl rfl rfl ?_
 refine rt_nil ?_
 refine tri_cond rfl (fun c1 => ?_) (fun c1 => ?_)
 ·replace h := cond_t h c1
  refine tri_sr ?_
  refine m1 ?_
  cases h
 ·replace h := cond_f h c1
  refine tri_skip ?_
  refine tri_seq ?_
  refine tri_sr ?_
  refine m1 ?_
  refine s_of (st_lenS rfl rfl iss9) rfl rfl rfl rfl ?_
  refine s_of (st_eqI rfl rfl rfl) rfl rfl rfl rfl ?_
  refine rt_nil ?_
  refine tri_cond rfl (fun c2 => ?_) (fun c2 => ?_)
  ·replace h := cond_t h c2
   refine tri_sr ?_
   refine m1 ?_
   refine m1 ?_
   refine bnd1_elim h fun x3 q4 h => ?_
   refine s_idxS rfl rfl rfl iss9 q4 rfl rfl rfl ?_
   refine s_countString rfl rfl rfl Tryd.func220 (by kernel_rfl) (by kernel_rfl) (by kernel_rfl) (by kernel_rfl) rfl rfl rfl ?_
   refine m2 ?_
   refine rt_nil ?_
   refine tri_ret ?_
   have e0 := (some1 h); subst e0
   exact endY [] [] (rvC (resTmp rfl) rvN) trivial trivial rfl rfl rfl rfl (.free rfl)
  ·replace h := cond_f h c2
   refine tri_skip ?_
   refine tri_sr ?_
   refine s_mv (.inr rfl) (v := .sc (.int .i64 0)) rfl rfl rfl rfl ?_
   refine rt_nil ?_
   refine tri_block ?_
   refine tri_loop (ι := { p : Nat × ByteArray × Int // strings_Count_l0 p1 p.1 p.2.1 p.2.2 = some r0 }) (fun p => inv_strings_Count_0 p1 p.1.2.1 p.1.2.2) (fun p => p.1.1) ⟨(fuel0, p0, 0), h⟩ ?_ ?_
   ·skip
    refine entX [] [] trivial trivial rfl rfl ?_
    exact ⟨(.free rfl), (.free rfl), (.free rfl), trivial⟩
   ·rintro ⟨⟨f0, v0_0, v0_1⟩, h⟩
    replace h : strings_Count_l0 p1 f0 v0_0 v0_1 = some r0 := h
    cases f0 with
    | zero => cases h
    | succ f0 =>
    rw [strings_Count_l0] at h
    show Tri _ _ _ (inv_strings_Count_0 p1 v0_0 v0_1)
    refine tri_block ?_
    refine tri_sr ?_
    refine m1 ?_
    refine m1 ?_
    refine bnd1_elim h fun x5 q6 h => ?_
    refine s_callN (kb := []) (ns := []) (v := .sc (.int .i64 x5)) rfl rfl cl209 (wstrings_Index v0_0 p1 x5 q6) rfl (.cons (.free rfl) (.cons (.free rfl) .nil)) trivial memNil .nil memNil rfl trivial memNil rfl rfl rfl rfl rfl rfl ?_
    refine m2 ?_
    refine rt_nil ?_
    refine tri_seq ?_
    refine tri_sr ?_
    refine m1 ?_
    refine s_of (st_eqI rfl rfl rfl) rfl rfl rfl rfl ?_
    refine rt_nil ?_
    refine tri_cond rfl (fun c7 => ?_) (fun c7 => ?_)
    ·replace h := cond_t h c7
     refine tri_sr ?_
     refine m1 ?_
     refine m2 ?_
     refine rt_nil ?_
     refine tri_ret ?_
     have e0 := (some1 h); subst e0
     exact endY [] [] (rvC (resTmp rfl) rvN) trivial trivial rfl rfl rfl rfl (.free rfl)
    ·replace h := cond_f h c7
     refine tri_skip ?_
     refine tri_sr ?_
     refine m1 ?_
     refine grd_elim h fun g8 h => ?_
     refine s_addI rfl rfl rfl rfl g8 rfl rfl rfl ?_
     refine m2 ?_
     refine rt_nil ?_
     refine tri_region ?_
     refine m1 ?_
     refine m1 ?_
     refine m1 ?_
     refine s_of (st_lenS rfl rfl iss9) rfl rfl rfl rfl ?_
     refine grd_elim h fun g9 h => ?_
     refine s_addI rfl rfl rfl rfl g9 rfl rfl rfl ?_
     refine grd_elim h fun g10 h => ?_
     refine s_sliceS (a := x5 + (p1.size : Int)) (b := (v0_0.size : Int)) rfl rfl iss9 ⟨_, rfl⟩ rfl g10 rfl rfl rfl ?_
     refine m2 ?_
     refine rt_nil ?_
     refine Exists.intro ⟨(f0, v0_0.extract (x5 + (p1.size : Int)).toNat (v0_0.size : Int).toNat, v0_1 + 1), h⟩ (And.intro (Nat.lt_succ_self _) ?_)
     refine entX [] [] trivial trivial rfl rfl ?_
     exact ⟨(.free rfl), (.free rfl), (.free rfl), trivial⟩

/- strings.genSplit -/
def inv_strings_genSplit_2 (p0 : ByteArray) (p1 : ByteArray) (p2 : Int) (j0_0 : Int) (v2_0 : ByteArray) (v2_1 : List ByteArray) (v2_2 : Int) : St := mkT 66 [(0, .sc (.string v2_0)), (1, .sc (.string p1)), (2, .sc (.int .i64 p2)), (3, .sc (.int .i64 ((if (p0.size : Int) + 1 < j0_0 then (p0.size : Int) + 1 else j0_0) - 1))), (9, .ref (31, 0) 0 v2_1.length), (10, .sc (.int .i64 v2_2))] [((31, 0), some ⟨9, 1, List.map strV v2_1, false, true⟩)]
def inv_strings_genSplit_1  (j1_0 : ByteArray) (j1_1 : List ByteArray) (j1_2 : Int) : St := mkT 66 [(0, .sc (.string j1_0)), (9, .ref (31, 0) 0 j1_1.length), (10, .sc (.int .i64 j1_2))] [((31, 0), some ⟨9, 1, List.map strV j1_1, false, true⟩)]
def inv_strings_genSplit_0 (p0 : ByteArray) (p1 : ByteArray) (p2 : Int) (j0_0 : Int) : St := mkT 66 [(0, .sc (.string p0)), (1, .sc (.string p1)), (2, .sc (.int .i64 p2)), (3, .sc (.int .i64 j0_0))] []
set_option maxRecDepth 4000 in
set_option maxHeartbeats 800000 in
theorem wstrings_genSplit (p0 : ByteArray) (p1 : ByteArray) (p2 : Int) (p3 : Int) (r0 : List ByteArray) (h : strings_genSplit p0 p1 p2 p3 = some r0) : Runs Tryd.prog 186 [.sc (.string p0), .sc (.string p1), .sc (.int .i64 p2), .sc (.int .i64 p3)] [] (.own 9 1 (List.map strV r0)) [] := by
 unfold strings_genSplit at h
 refine runsR [.tmp 8] Tryd.func186 rfl rfl rfl rfl ?_
 rw [Tryd.ntmps186]
 refine tri_sr ?_
 refine s_mv (.inr rfl) (v := .nils) rfl rfl rfl rfl ?_
 refine rt_nil ?_
 refine tri_seq ?_
 refine tri_sr ?_
 refine m1 ?_
 refine s_of (st_eqI rfl rfl rfl) rfl rfl rfl rfl ?_
 refine rt_nil ?_
 refine tri_cond rfl (fun c1 => ?_) (fun c1 => ?_)
 ·replace h := cond_t h c1
  refine tri_sr ?_
  refine s_mv (.inr rfl) (v := .nils) rfl rfl rfl rfl ?_
  refine rt_nil ?_
  refine tri_ret ?_
  have e0 := (some1 h); subst e0
  exact endY (v' := .ref (2000, 0) 0 (([] : List ByteArray).length)) [((2000, 0), ⟨9, 1, List.map strV ([] : List ByteArray), false, true⟩, none)] [] (rvC (resTmp rfl) rvN) ⟨rfl, trivial⟩ trivial rfl rfl (by kernel_rfl) (by simp only [V.mat, V.mat1, V.mat0, matL, matT, List.length_map] <;> rfl) (.nilRef rfl)
 ·replace h := cond_f h c1
  refine tri_skip ?_
  refine tri_seq ?_
  refine tri_sr ?_
  refine m1 ?_
  refine s_of (st_eqS rfl rfl rfl) rfl rfl rfl rfl ?_
  refine rt_nil ?_
  refine tri_cond rfl (fun c2 => ?_) (fun c2 => ?_)
  ·replace h := cond_t h c2
   refine tri_sr ?_
   refine m1 ?_
   refine m1 ?_
   cases h
  ·replace h := cond_f h c2
   refine tri_skip ?_
   refine tri_cutI (ι := { p : Int // strings_genSplit_j0 p0 p1 p2 p = some r0 }) (fun p => inv_strings_genSplit_0 p0 p1 p2 p.1) ?_ ?_
   ·skip
    refine tri_sr ?_
    refine m1 ?_
    refine s_of (st_lss rfl rfl rfl) rfl rfl rfl rfl ?_
    refine rt_nil ?_
    refine tri_cond rfl (fun c3 => ?_) (fun c3 => ?_)
    ·replace h := cond_t h c3
     refine tri_region ?_
     refine m1 ?_
     refine m1 ?_
     refine bnd1_elim h fun x4 q5 h => ?_
     refine s_callN (kb := []) (ns := []) (v := .sc (.int .i64 x4)) rfl rfl cl208 (wstrings_Count p0 p1 x4 q5) rfl (.cons (.free rfl) (.cons (.free rfl) .nil)) trivial memNil .nil memNil rfl trivial memNil rfl rfl rfl rfl rfl rfl ?_
     refine grd_elim h fun g6 h => ?_
     refine s_addI rfl rfl rfl rfl g6 rfl rfl rfl ?_
     refine m2 ?_
     refine rt_nil ?_
     refine Exists.intro ⟨x4 + 1, h⟩ ?_
     refine entX [] [] trivial trivial rfl rfl ?_
     exact ⟨(.free rfl), (.free rfl), (.free rfl), (.free rfl), trivial⟩
    ·replace h := cond_f h c3
     refine tri_skip ?_
     refine Exists.intro ⟨p3, h⟩ ?_
     refine entX [] [] trivial trivial rfl rfl ?_
     exact ⟨(.free rfl), (.free rfl), (.free rfl), (.free rfl), trivial⟩
   ·rintro ⟨j0_0, h⟩
    replace h : strings_genSplit_j0 p0 p1 p2 j0_0 = some r0 := h
    unfold strings_genSplit_j0 at h
    show Tri _ _ _ (inv_strings_genSplit_0 p0 p1 p2 j0_0)
    refine tri_sr ?_
    refine m1 ?_
    refine m1 ?_
    refine s_of (st_lenS rfl rfl iss9) rfl rfl rfl rfl ?_
    refine grd_elim h fun g3 h => ?_
    refine s_addI rfl rfl rfl rfl g3 rfl rfl rfl ?_
    refine s_of (st_minI rfl rfl rfl) rfl rfl rfl rfl ?_
    refine m2 ?_
    refine rt_nil ?_
    refine tri_sr ?_
    refine m1 ?_
    refine grd_elim h fun g4 h => ?_
    refine s_makeL (f := strV) (a := (⟨#[]⟩ : ByteArray)) rfl rfl rfl rfl rfl sl33 zc9 rfl rfl rfl rfl g4.1 g4.2 (rowZ_cv rfl rowZ_nil) rfl rfl ?_
    refine m2 ?_
    refine rt_nil ?_
    refine tri_sr ?_
    refine m1 ?_
    refine grd_elim h fun g5 h => ?_
    refine s_subI rfl rfl rfl rfl g5 rfl rfl rfl ?_
    refine m2 ?_
    refine rt_nil ?_
    refine tri_sr ?_
    refine s_mv (.inr rfl) (v := .sc (.int .i64 0)) rfl rfl rfl rfl ?_
    refine rt_nil ?_
    refine tri_cutI (ι := { p : ByteArray × (List ByteArray) × Int // strings_genSplit_j1 p.1 p.2.1 p.2.2 = some r0 }) (fun p => inv_strings_genSplit_1 p.1.1 p.1.2.1 p.1.2.2) ?_ ?_
    ·skip
     refine tri_block ?_
     refine tri_loop (ι := { p : Nat × ByteArray × (List ByteArray) × Int // strings_genSplit_l2 p0 p1 p2 j0_0 p.1 p.2.1 p.2.2.1 p.2.2.2 = some r0 }) (fun p => inv_strings_genSplit_2 p0 p1 p2 j0_0 p.1.2.1 p.1.2.2.1 p.1.2.2.2) (fun p => p.1.1) ⟨(fuel0, p0, List.replicate (if (p0.size : Int) + 1 < j0_0 then (p0.size : Int) + 1 else j0_0).toNat (⟨#[]⟩ : ByteArray), 0), h⟩ ?_ ?_
     ·skip
      refine entX [((31, 0), ⟨9, 1, List.map strV (List.replicate (if (p0.size : Int) + 1 < j0_0 then (p0.size : Int) + 1 else j0_0).toNat (⟨#[]⟩ : ByteArray)), false, true⟩, some (31, 0))] [] ⟨⟨rfl, _, rfl, rfl, rfl, rfl, id, rowsCv_eq rfl (allFree_map strV_free), rowsZ_map strV_len⟩, trivial⟩ trivial rfl rfl ?_
      exact ⟨(.free rfl), (.free rfl), (.free rfl), (.free rfl), (.ref rfl), (.free rfl), trivial⟩
     ·rintro ⟨⟨f2, v2_0, v2_1, v2_2⟩, h⟩
      replace h : strings_genSplit_l2 p0 p1 p2 j0_0 f2 v2_0 v2_1 v2_2 = some r0 := h
      cases f2 with
      | zero => cases h
      | succ f2 =>
      rw [strings_genSplit_l2] at h
      show Tri _ _ _ (inv_strings_genSplit_2 p0 p1 p2 j0_0 v2_0 v2_1 v2_2)
      refine tri_seq ?_
      refine tri_sr ?_
      refine m1 ?_
      refine m1 ?_
      refine s_of (st_lss rfl rfl rfl) rfl rfl rfl rfl ?_
      refine rt_nil ?_
      refine tri_cond rfl (fun c6 => ?_) (fun c6 => ?_)
      ·replace h := cond_t h c6
       refine tri_skip ?_
       refine tri_block ?_
       refine tri_sr ?_
       refine m1 ?_
       refine m1 ?_
       refine bnd1_elim h fun x7 q8 h => ?_
       refine s_callN (kb := []) (ns := []) (v := .sc (.int .i64 x7)) rfl rfl cl209 (wstrings_Index v2_0 p1 x7 q8) rfl (.cons (.free rfl) (.cons (.free rfl) .nil)) trivial memNil .nil memNil rfl trivial memNil rfl rfl rfl rfl rfl rfl ?_
       refine m2 ?_
       refine rt_nil ?_
       refine tri_seq ?_
       refine tri_sr ?_
       refine m1 ?_
       refine s_of (st_lss rfl rfl rfl) rfl rfl rfl rfl ?_
       refine rt_nil ?_
       refine tri_cond rfl (fun c9 => ?_) (fun c9 => ?_)
       ·replace h := cond_t h c9
        refine tri_exit ?_
        refine Exists.intro ⟨(v2_0, v2_1, v2_2), h⟩ ?_
        refine entX [((31, 0), ⟨9, 1, List.map strV v2_1, false, true⟩, some (31, 0))] [] ⟨⟨rfl, _, rfl, rfl, rfl, rfl, id, rowsCv_eq rfl (allFree_map strV_free), rowsZ_map strV_len⟩, trivial⟩ trivial rfl rfl ?_
        exact ⟨(.free rfl), (.ref rfl), (.free rfl), trivial⟩
       ·replace h := cond_f h c9
        refine tri_skip ?_
        refine tri_sr ?_
        refine m1 ?_
        refine m1 ?_
        refine m1 ?_
        refine m1 ?_
        refine m1 ?_
        refine grd_elim h fun g10 h => ?_
        refine s_addI rfl rfl rfl rfl g10 rfl rfl rfl ?_
        refine grd_elim h fun g11 h => ?_
        refine s_sliceS (a := ((0 : Nat) : Int)) (b := x7 + p2) rfl rfl iss9 rfl ⟨_, rfl⟩ g11 rfl rfl rfl ?_
        refine bnd1_elim h fun x12 q13 h => ?_
        have q13a := (idx_some q13).1; have q13b := (idx_some q13).2
        refine s_indexZ rfl rfl rfl rfl sl33 rfl q13a (get_lt q13b) rfl rfl rfl ?_
        refine s_storeL (x' := v2_0.extract ((0 : Nat) : Int).toNat (x7 + p2).toNat) rfl rfl rfl q13b ty9 rfl rfl rfl rfl rfl rfl ?_
        refine rt_nil ?_
        refine tri_sr ?_
        refine m1 ?_
        refine m1 ?_
        refine m1 ?_
        refine s_of (st_lenS rfl rfl iss9) rfl rfl rfl rfl ?_
        refine grd_elim h fun g14 h => ?_
        refine s_addI rfl rfl rfl rfl g14 rfl rfl rfl ?_
        refine grd_elim h fun g15 h => ?_
        refine s_sliceS (a := x7 + (p1.size : Int)) (b := (v2_0.size : Int)) rfl rfl iss9 ⟨_, rfl⟩ rfl g15 rfl rfl rfl ?_
        refine m2 ?_
        refine rt_nil ?_
        refine tri_region ?_
        refine m1 ?_
        refine grd_elim h fun g16 h => ?_
        refine s_addI rfl rfl rfl rfl g16 rfl rfl rfl ?_
        refine m2 ?_
        refine rt_nil ?_
        refine Exists.intro ⟨(f2, v2_0.extract (x7 + (p1.size : Int)).toNat (v2_0.size : Int).toNat, v2_1.set v2_2.toNat (v2_0.extract ((0 : Nat) : Int).toNat (x7 + p2).toNat), v2_2 + 1), h⟩ (And.intro (Nat.lt_succ_self _) ?_)
        refine entX [((31, 0), ⟨9, 1, List.map strV (v2_1.set v2_2.toNat (v2_0.extract ((0 : Nat) : Int).toNat (x7 + p2).toNat)), false, true⟩, some (31, 0))] [] ⟨⟨rfl, _, rfl, rfl, rfl, rfl, id, rowsCv_eq rfl (allFree_map strV_free), rowsZ_map strV_len⟩, trivial⟩ trivial rfl rfl ?_
        exact ⟨(.free rfl), (.free rfl), (.free rfl), (.free rfl), (cvRefLen rfl (by simp only [List.length_set])), (.free rfl), trivial⟩
      ·replace h := cond_f h c6
       refine tri_exit ?_
       refine Exists.intro ⟨(v2_0, v2_1, v2_2), h⟩ ?_
       refine entX [((31, 0), ⟨9, 1, List.map strV v2_1, false, true⟩, some (31, 0))] [] ⟨⟨rfl, _, rfl, rfl, rfl, rfl, id, rowsCv_eq rfl (allFree_map strV_free), rowsZ_map strV_len⟩, trivial⟩ trivial rfl rfl ?_
       exact ⟨(.free rfl), (.ref rfl), (.free rfl), trivial⟩
    ·rintro ⟨⟨j1_0, j1_1, j1_2⟩, h⟩
     replace h : strings_genSplit_j1 j1_0 j1_1 j1_2 = some r0 := h
     unfold strings_genSplit_j1 at h
     show Tri _ _ _ (inv_strings_genSplit_1 j1_0 j1_1 j1_2)
     refine tri_sr ?_
     refine m1 ?_
     refine m1 ?_
     refine m1 ?_
     refine bnd1_elim h fun x6 q7 h => ?_
     have q7a := (idx_some q7).1; have q7b := (idx_some q7).2
     refine s_indexZ rfl rfl rfl rfl sl33 rfl q7a (get_lt q7b) rfl rfl rfl ?_
     refine s_storeL (x' := j1_0) rfl rfl rfl q7b ty9 rfl rfl rfl rfl rfl rfl ?_
     refine rt_nil ?_
     refine tri_sr ?_
     refine m1 ?_
     refine m1 ?_
     refine grd_elim h fun g8 h => ?_
     refine s_addI rfl rfl rfl rfl g8 rfl rfl rfl ?_
     refine grd_elim h fun g9 h => ?_
     refine s_sliceZ (a := ((0 : Nat) : Int)) (b := j1_2 + 1) rfl rfl rfl sl33 rfl rfl ⟨_, rfl⟩ g9 rfl rfl rfl ?_
     refine m2 ?_
     refine rt_nil ?_
     refine tri_ret ?_
     have e0 := (some1 h); subst e0
     exact endY (v' := .ref (2000, 0) 0 ((((j1_1.set j1_2.toNat j1_0).drop (0 + ((0 : Nat) : Int).toNat)).take ((j1_2 + 1).toNat - ((0 : Nat) : Int).toNat)).length)) [((2000, 0), ⟨9, 1, List.map strV (((j1_1.set j1_2.toNat j1_0).drop (0 + ((0 : Nat) : Int).toNat)).take ((j1_2 + 1).toNat - ((0 : Nat) : Int).toNat)), false, true⟩, some (31, 0))] [] (rvC (resTmp rfl) rvN) ⟨⟨rfl, _, rfl, rfl, rfl, rfl, id, rowsCv_pre rfl strV_free, rowsZ_map strV_len⟩, trivial⟩ trivial rfl rfl (by kernel_rfl) (by simp only [V.mat, V.mat1, V.mat0, matL, matT, List.length_map] <;> rfl) (cvRefPre rfl rfl (by simp only [List.length_take, List.length_drop, List.length_set]; omega))

/- strings.Split -/

set_option maxRecDepth 4000 in
set_option maxHeartbeats 800000 in
theorem wstrings_Split (p0 : ByteArray) (p1 : ByteArray) (r0 : List ByteArray) (h : strings_Split p0 p1 = some r0) : Runs Tryd.prog 151 [.sc (.string p0), .sc (.string p1)] [] (.own 9 1 (List.map strV r0)) [] := by
 unfold strings_Split at h
 refine runsR [.tmp 4] Tryd.func151 rfl rfl rfl rfl ?_
 rw [Tryd.ntmps151]
 refine tri_sr ?_
 refine s_mv (.inr rfl) (v := .nils) rfl rfl rfl rfl ?_
 refine rt_nil ?_
 refine tri_sr ?_
 refine m1 ?_
 refine m1 ?_
 refine bnd1_elim h fun x1 q2 h => ?_
 refine s_callN (kb := []) (ns := []) (v := .ref (7, 0) 0 x1.length) rfl rfl cl186 (wstrings_genSplit p0 p1 0 (-1) x1 q2) rfl (.cons (.free rfl) (.cons (.free rfl) (.cons (.free rfl) (.cons (.free rfl) .nil)))) trivial memNil .nil memNil rfl ⟨(allSc_map strV_sc), trivial⟩ memNil rfl (by simp only [V.mat, V.mat1, V.mat0, matL, matT, List.length_map] <;> rfl) rfl rfl rfl rfl ?_
 refine m2 ?_
 refine rt_nil ?_
 refine tri_ret ?_
 have e0 := (some1 h); subst e0
 exact endY (v' := .ref (2000, 0) 0 x1.length) [((2000, 0), ⟨9, 1, List.map strV x1, false, true⟩, some (7, 0))] [] (rvC (resTmp rfl) rvN) ⟨⟨rfl, _, rfl, rfl, rfl, rfl, id, rowsCv_eq rfl (allFree_map strV_free), rowsZ_map strV_len⟩, trivial⟩ trivial rfl rfl (by kernel_rfl) (by simp only [V.mat, V.mat1, V.mat0, matL, matT, List.length_map] <;> rfl) (.ref rfl)

/- impl.Labels -/

set_option maxRecDepth 4000 in
set_option maxHeartbeats 800000 in
theorem wi_Labels (p0 : ByteArray) (r0 : List ByteArray) (h : i_Labels p0 = some r0) : Runs Tryd.prog 96 [.sc (.string p0)] [] (.own 9 1 (List.map strV r0)) [] := by
 unfold i_Labels at h
 refine runsR [.tmp 2] Tryd.func96 rfl rfl rfl rfl ?_
 rw [Tryd.ntmps96]
 refine tri_sr ?_
 refine s_mv (.inr rfl) (v := .nils) rfl rfl rfl rfl ?_
 refine rt_nil ?_
 refine tri_seq ?_
 refine tri_sr ?_
 refine m1 ?_
 refine s_of (st_eqS rfl rfl rfl) rfl rfl rfl rfl ?_
 refine rt_nil ?_
 refine tri_cond rfl (fun c1 => ?_) (fun c1 => ?_)
 ·replace h := cond_t h c1
  refine tri_sr ?_
  refine s_mv (.inr rfl) (v := .nils) rfl rfl rfl rfl ?_
  refine rt_nil ?_
  refine tri_ret ?_
  have e0 := (some1 h); subst e0
  exact endY (v' := .ref (2000, 0) 0 (([] : List ByteArray).length)) [((2000, 0), ⟨9, 1, List.map strV ([] : List ByteArray), false, true⟩, none)] [] (rvC (resTmp rfl) rvN) ⟨rfl, trivial⟩ trivial rfl rfl (by kernel_rfl) (by simp only [V.mat, V.mat1, V.mat0, matL, matT, List.length_map] <;> rfl) (.nilRef rfl)
 ·replace h := cond_f h c1
  refine tri_skip ?_
  refine tri_sr ?_
  refine m1 ?_
  refine bnd1_elim h fun x2 q3 h => ?_
  refine s_callN (kb := []) (ns := []) (v := .ref (6, 0) 0 x2.length) rfl rfl cl151 (wstrings_Split p0 (⟨#[46]⟩ : ByteArray) x2 q3) rfl (.cons (.free rfl) (.cons (.free rfl) .nil)) trivial memNil .nil memNil rfl ⟨(allSc_map strV_sc), trivial⟩ memNil rfl (by simp only [V.mat, V.mat1, V.mat0, matL, matT, List.length_map] <;> rfl) rfl rfl rfl rfl ?_
  refine m2 ?_
  refine rt_nil ?_
  refine tri_ret ?_
  have e0 := (some1 h); subst e0
  exact endY (v' := .ref (2000, 0) 0 x2.length) [((2000, 0), ⟨9, 1, List.map strV x2, false, true⟩, some (6, 0))] [] (rvC (resTmp rfl) rvN) ⟨⟨rfl, _, rfl, rfl, rfl, rfl, id, rowsCv_eq rfl (allFree_map strV_free), rowsZ_map strV_len⟩, trivial⟩ trivial rfl rfl (by kernel_rfl) (by simp only [V.mat, V.mat1, V.mat0, matL, matT, List.length_map] <;> rfl) (.ref rfl)

/- slices.Reverse[[]string,string] -/
def inv_slices_Reverse_string_0  (v0_0 : List ByteArray) (v0_1 : Int) (v0_2 : Int) : St := mkT 28 [(0, .ref (1000, 0) 0 v0_0.length), (2, .sc (.int .i64 v0_1)), (3, .sc (.int .i64 v0_2))] [((1000, 0), some ⟨9, 1, List.map strV v0_0, false, false⟩)]
set_option maxRecDepth 4000 in
set_option maxHeartbeats 800000 in
theorem wslices_Reverse_string (p0 : List ByteArray) (r0 : List ByteArray) (h : slices_Reverse_string p0 = some r0) : Runs Tryd.prog 213 [.ref (1000, 0) 0 p0.length] [⟨9, 1, List.map strV p0, false, false⟩] (.tup []) [⟨9, 1, List.map strV r0, false, false⟩] := by
 unfold slices_Reverse_string at h
 refine runsR [] Tryd.func213 rfl rfl rfl rfl ?_
 rw [Tryd.ntmps213]
 refine tri_sr ?_
 refine m1 ?_
 refine s_len (m := p0.length) rfl sl33 rfl rfl rfl rfl ?_
 refine grd_elim h fun g1 h => ?_
 refine s_subI rfl rfl rfl rfl g1 rfl rfl rfl ?_
 refine s_mv (.inr rfl) (v := .sc (.int .i64 0)) rfl rfl rfl rfl ?_
 refine m2 ?_
 refine rt_nil ?_
 refine tri_block ?_
 refine tri_loop (ι := { p : Nat × (List ByteArray) × Int × Int // slices_Reverse_string_l0 p.1 p.2.1 p.2.2.1 p.2.2.2 = some r0 }) (fun p => inv_slices_Reverse_string_0 p.1.2.1 p.1.2.2.1 p.1.2.2.2) (fun p => p.1.1) ⟨(fuel0, p0, 0, (p0.length : Int) - 1), h⟩ ?_ ?_
 ·skip
  refine entX [((1000, 0), ⟨9, 1, List.map strV p0, false, false⟩, some (1000, 0))] [] ⟨⟨rfl, _, rfl, rfl, rfl, rfl, id, rowsCv_eq rfl (allFree_map strV_free), rowsZ_map strV_len⟩, trivial⟩ trivial rfl rfl ?_
  exact ⟨(.ref rfl), (.free rfl), (.free rfl), trivial⟩
 ·rintro ⟨⟨f0, v0_0, v0_1, v0_2⟩, h⟩
  replace h : slices_Reverse_string_l0 f0 v0_0 v0_1 v0_2 = some r0 := h
  cases f0 with
  | zero => cases h
  | succ f0 =>
  rw [slices_Reverse_string_l0] at h
  show Tri _ _ _ (inv_slices_Reverse_string_0 v0_0 v0_1 v0_2)
  refine tri_seq ?_
  refine tri_sr ?_
  refine m1 ?_
  refine m1 ?_
  refine s_of (st_lss rfl rfl rfl) rfl rfl rfl rfl ?_
  refine rt_nil ?_
  refine tri_cond rfl (fun c2 => ?_) (fun c2 => ?_)
  ·replace h := cond_t h c2
   refine tri_skip ?_
   refine tri_seq ?_
   refine tri_block ?_
   refine tri_draw mixed ?_
   refine m1 ?_
   refine m1 ?_
   refine m1 ?_
   refine m1 ?_
   refine m1 ?_
   refine m1 ?_
   refine bnd1_elim h fun x3 q4 h => ?_
   have q4a := (idx_some q4).1; have q4b := (idx_some q4).2
   refine s_indexZ rfl rfl rfl rfl sl33 rfl q4a (get_lt q4b) rfl rfl rfl ?_
   refine s_load rfl rfl rfl (rowG q4b) ty9 rfl (.inr rfl) (by conv => lhs; whnf) rfl rfl rfl ?_
   refine m1 ?_
   refine m1 ?_
   refine bnd1_elim h fun x5 q6 h => ?_
   have q6a := (idx_some q6).1; have q6b := (idx_some q6).2
   refine s_indexZ rfl rfl rfl rfl sl33 rfl q6a (get_lt q6b) rfl rfl rfl ?_
   refine s_load rfl rfl rfl (rowG q6b) ty9 rfl (.inr rfl) (by conv => lhs; whnf) rfl rfl rfl ?_
   refine s_indexZ rfl rfl rfl rfl sl33 rfl q6a (get_lt q6b) rfl rfl rfl ?_
   refine s_storeL (x' := x3) rfl rfl rfl q6b ty9 rfl rfl rfl rfl rfl rfl ?_
   refine bnd1_elim h fun x7 q8 h => ?_
   have q8a := (idx_some q8).1; have q8b := (idx_some q8).2
   refine s_indexZ rfl rfl rfl rfl sl33 rfl q8a (by have q := get_lt q8b; simpa only [List.length_set] using q) rfl rfl rfl ?_
   refine s_storeL (x' := x5) rfl rfl rfl q8b ty9 rfl rfl rfl rfl rfl rfl ?_
   refine rt_nil ⟨by kernel_rfl, ?_⟩
   refine tri_region ?_
   refine m1 ?_
   refine grd_elim h fun g9 h => ?_
   refine s_addI rfl rfl rfl rfl g9 rfl rfl rfl ?_
   refine m1 ?_
   refine grd_elim h fun g10 h => ?_
   refine s_subI rfl rfl rfl rfl g10 rfl rfl rfl ?_
   refine m2 ?_
   refine m2 ?_
   refine rt_nil ?_
   refine Exists.intro ⟨(f0, (v0_0.set v0_1.toNat x3).set v0_2.toNat x5, v0_1 + 1, v0_2 - 1), h⟩ (And.intro (Nat.lt_succ_self _) ?_)
   refine entX [((1000, 0), ⟨9, 1, List.map strV ((v0_0.set v0_1.toNat x3).set v0_2.toNat x5), false, false⟩, some (1000, 0))] [] ⟨⟨rfl, _, rfl, rfl, rfl, rfl, id, rowsCv_eq rfl (allFree_map strV_free), rowsZ_map strV_len⟩, trivial⟩ trivial rfl rfl ?_
   exact ⟨(cvRefLen rfl (by simp only [List.length_set])), (.free rfl), (.free rfl), trivial⟩
  ·replace h := cond_f h c2
   refine tri_exit ?_
   have e0 := (some1 h); subst e0
   exact endY [((1000, 0), ⟨9, 1, List.map strV v0_0, false, false⟩, some (1000, 0))] [] rvN ⟨⟨rfl, _, rfl, rfl, rfl, rfl, id, rowsCv_eq rfl (allFree_map strV_free), rowsZ_map strV_len⟩, trivial⟩ trivial rfl rfl (by kernel_rfl) rfl (CvL.tup .nil)

/- cmp.isNaN[string] -/

set_option maxRecDepth 4000 in
set_option maxHeartbeats 800000 in
theorem wcmp_isNaN_string (p0 : ByteArray) (r0 : Bool) (h : cmp_isNaN_string p0 = some r0) : Runs Tryd.prog 200 [.sc (.string p0)] [] (.sc (.bool r0)) [] := by
 unfold cmp_isNaN_string at h
 refine runsR [.tmp 2] Tryd.func200 rfl rfl rfl rfl ?_
 rw [Tryd.ntmps200]
 refine tri_sr ?_
 refine s_mv (.inr rfl) (v := .sc (.bool false)) rfl rfl rfl rfl ?_
 refine rt_nil ?_
 refine tri_sr ?_
 refine m1 ?_
 refine m1 ?_
 refine s_of (st_neS rfl rfl rfl) rfl rfl rfl rfl ?_
 refine m2 ?_
 refine rt_nil ?_
 refine tri_ret ?_
 have e0 := (some1 h); subst e0
 exact endY [] [] (rvC (resTmp rfl) rvN) trivial trivial rfl rfl rfl rfl (.free rfl)

/- cmp.Compare[string] -/

set_option maxRecDepth 4000 in
set_option maxHeartbeats 800000 in
theorem wcmp_Compare_string (p0 : ByteArray) (p1 : ByteArray) (r0 : Int) (h : cmp_Compare_string p0 p1 = some r0) : Runs Tryd.prog 175 [.sc (.string p0), .sc (.string p1)] [] (.sc (.int .i64 r0)) [] := by
 unfold cmp_Compare_string at h
 refine runsR [.tmp 4] Tryd.func175 rfl rfl rfl rfl ?_
 rw [Tryd.ntmps175]
 refine tri_sr ?_
 refine s_mv (.inr rfl) (v := .sc (.int .i64 0)) rfl rfl rfl rfl ?_
 refine rt_nil ?_
 refine tri_sr ?_
 refine m1 ?_
 refine bnd1_elim h fun x1 q2 h => ?_
 refine s_callN (kb := []) (ns := []) (v := .sc (.bool x1)) rfl rfl cl200 (wcmp_isNaN_string p0 x1 q2) rfl (.cons (.free rfl) .nil) trivial memNil .nil memNil rfl trivial memNil rfl rfl rfl rfl rfl rfl ?_
 refine m2 ?_
 refine rt_nil ?_
 refine tri_sr ?_
 refine m1 ?_
 refine bnd1_elim h fun x3 q4 h => ?_
 refine s_callN (kb := []) (ns := []) (v := .sc (.bool x3)) rfl rfl cl200 (wcmp_isNaN_string p1 x3 q4) rfl (.cons (.free rfl) .nil) trivial memNil .nil memNil rfl trivial memNil rfl rfl rfl rfl rfl rfl ?_
 refine m2 ?_
 refine rt_nil ?_
 refine tri_seq ?_
 refine tri_sr ?_
 refine m1 ?_
 refine rt_nil ?_
 refine tri_cond rfl (fun c5 => ?_) (fun c5 => ?_)
 ·replace h := cond_t h c5
  refine tri_seq ?_
  refine tri_sr ?_
  refine m1 ?_
  refine rt_nil ?_
  refine tri_cond rfl (fun c6 => ?_) (fun c6 => ?_)
  ·replace h := cond_t h c6
   refine tri_sr ?_
   refine s_mv (.inr rfl) (v := .sc (.int .i64 0)) rfl rfl rfl rfl ?_
   refine rt_nil ?_
   refine tri_ret ?_
   have e0 := (some1 h); subst e0
   exact endY [] [] (rvC (resTmp rfl) rvN) trivial trivial rfl rfl rfl rfl (.free rfl)
  ·replace h := cond_f h c6
   refine tri_skip ?_
   refine tri_sr ?_
   refine s_mv (.inr rfl) (v := .sc (.int .i64 (-1))) rfl rfl rfl rfl ?_
   refine rt_nil ?_
   refine tri_ret ?_
   have e0 := (some1 h); subst e0
   exact endY [] [] (rvC (resTmp rfl) rvN) trivial trivial rfl rfl rfl rfl (.free rfl)
 ·replace h := cond_f h c5
  refine tri_skip ?_
  refine tri_seq ?_
  refine tri_sr ?_
  refine m1 ?_
  refine rt_nil ?_
  refine tri_cond rfl (fun c7 => ?_) (fun c7 => ?_)
  ·replace h := cond_t h c7
   refine tri_sr ?_
   refine s_mv (.inr rfl) (v := .sc (.int .i64 1)) rfl rfl rfl rfl ?_
   refine rt_nil ?_
   refine tri_ret ?_
   have e0 := (some1 h); subst e0
   exact endY [] [] (rvC (resTmp rfl) rvN) trivial trivial rfl rfl rfl rfl (.free rfl)
  ·replace h := cond_f h c7
   refine tri_skip ?_
   refine tri_seq ?_
   refine tri_sr ?_
   refine m1 ?_
   refine m1 ?_
   refine s_of (st_ltS rfl rfl rfl) rfl rfl rfl rfl ?_
   refine rt_nil ?_
   refine tri_cond rfl (fun c8 => ?_) (fun c8 => ?_)
   ·replace h := cond_t h c8
    refine tri_sr ?_
    refine s_mv (.inr rfl) (v := .sc (.int .i64 (-1))) rfl rfl rfl rfl ?_
    refine rt_nil ?_
    refine tri_ret ?_
    have e0 := (some1 h); subst e0
    exact endY [] [] (rvC (resTmp rfl) rvN) trivial trivial rfl rfl rfl rfl (.free rfl)
   ·replace h := cond_f h c8
    refine tri_skip ?_
    refine tri_seq ?_
    refine tri_sr ?_
    refine m1 ?_
    refine m1 ?_
    refine s_of (st_gtS rfl rfl rfl) rfl rfl rfl rfl ?_
    refine rt_nil ?_
    refine tri_cond rfl (fun c9 => ?_) (fun c9 => ?_)
    ·replace h := cond_t h c9
     refine tri_sr ?_
     refine s_mv (.inr rfl) (v := .sc (.int .i64 1)) rfl rfl rfl rfl ?_
     refine rt_nil ?_
     refine tri_ret ?_
     have e0 := (some1 h); subst e0
     exact endY [] [] (rvC (resTmp rfl) rvN) trivial trivial rfl rfl rfl rfl (.free rfl)
    ·replace h := cond_f h c9
     refine tri_skip ?_
     refine tri_sr ?_
     refine s_mv (.inr rfl) (v := .sc (.int .i64 0)) rfl rfl rfl rfl ?_
     refine rt_nil ?_
     refine tri_ret ?_
     have e0 := (some1 h); subst e0
     exact endY [] [] (rvC (resTmp rfl) rvN) trivial trivial rfl rfl rfl rfl (.free rfl)

/- slices.Compare[[]string,string] -/
def inv_slices_Compare_string_1 (p0 : List ByteArray) (p1 : List ByteArray) (v1_0 : Nat) : St := mkT 36 [(0, .lst 1 (List.map strV p0)), (1, .lst 1 (List.map strV p1)), (9, .lst 1 (List.map strV p0)), (10, .sc (.int .i64 (p0.length : Int))), (11, .sc (.int .i64 (v1_0 : Int)))] []
def inv_slices_Compare_string_0 (p0 : List ByteArray) (p1 : List ByteArray) : St := mkT 36 [(0, .lst 1 (List.map strV p0)), (1, .lst 1 (List.map strV p1))] []
set_option maxRecDepth 4000 in
set_option maxHeartbeats 800000 in
theorem wslices_Compare_string (p0 : List ByteArray) (p1 : List ByteArray) (r0 : Int) (h : slices_Compare_string p0 p1 = some r0) : Runs Tryd.prog 214 [.lst 1 (List.map strV p0), .lst 1 (List.map strV p1)] [] (.sc (.int .i64 r0)) [] := by
 unfold slices_Compare_string at h
 refine runsR [.tmp 4] Tryd.func214 rfl rfl rfl rfl ?_
 rw [Tryd.ntmps214]
 refine tri_sr ?_
 refine s_mv (.inr rfl) (v := .sc (.int .i64 0)) rfl rfl rfl rfl ?_
 refine rt_nil ?_
 refine tri_cutI (ι := { p : Unit // slices_Compare_string_j0 p0 p1 = some r0 }) (fun p => inv_slices_Compare_string_0 p0 p1) ?_ ?_
 ·skip
  refine tri_sr ?_
  refine m1 ?_
  refine s_lenL rfl sl33 rfl rfl rfl rfl ?_
  refine s_mv (.inl rfl) (v := .sc (.int .i64 0)) rfl rfl rfl rfl ?_
  refine rt_nil ?_
  refine tri_block ?_
  refine tri_lstM 0 rfl (fun hl1 => ?_)
  refine tri_loop (ι := { p : (List ByteArray) × Nat // p0.drop p.2 = p.1 ∧ slices_Compare_string_l1 p0 p1 p.1 p.2 = some r0 }) (fun p => inv_slices_Compare_string_1 p0 p1 p.1.2) (fun p => p.1.1.length) ⟨(p0, 0), rfl, h⟩ ?_ ?_
  ·skip
   refine entX [] [] trivial trivial rfl rfl ?_
   exact ⟨(.free rfl), (.free rfl), (.free rfl), (.free rfl), (.free rfl), trivial⟩
  ·rintro ⟨⟨lrs1, v1_0⟩, hd1, h⟩
   replace hd1 : p0.drop v1_0 = lrs1 := hd1
   replace h : slices_Compare_string_l1 p0 p1 lrs1 v1_0 = some r0 := h
   show Tri _ _ _ (inv_slices_Compare_string_1 p0 p1 v1_0)
   refine tri_sr ?_
   refine s_of (st_lss rfl rfl rfl) rfl rfl rfl rfl ?_
   refine rt_nil ?_
   refine tri_seq ?_
   refine tri_cond rfl (fun c1 => ?_) (fun c1 => ?_)
   ·refine drop_elim hd1 c1 fun e1 rs1 he hx1 hn1 => ?_
    subst he
    rw [slices_Compare_string_l1] at h
    refine tri_skip ?_
    refine tri_seq ?_
    refine tri_block ?_
    refine tri_sr ?_
    refine m1 ?_
    refine s_indexF (i := v1_0) rfl rfl rfl sl33 (get_ltM hx1) rfl rfl rfl ?_
    refine s_loadF rfl rfl (rowG hx1) ty9 rfl (.inr rfl) (by conv => lhs; whnf) rfl rfl rfl ?_
    refine m2 ?_
    refine m2 ?_
    refine rt_nil ?_
    refine tri_seq ?_
    refine tri_sr ?_
    refine m1 ?_
    refine m1 ?_
    refine s_lenL rfl sl33 rfl rfl rfl rfl ?_
    refine s_of (st_geq rfl rfl rfl) rfl rfl rfl rfl ?_
    refine rt_nil ?_
    refine tri_cond rfl (fun c2 => ?_) (fun c2 => ?_)
    ·replace h := cond_t h c2
     refine tri_sr ?_
     refine s_mv (.inr rfl) (v := .sc (.int .i64 1)) rfl rfl rfl rfl ?_
     refine rt_nil ?_
     refine tri_ret ?_
     have e0 := (some1 h); subst e0
     exact endY [] [] (rvC (resTmp rfl) rvN) trivial trivial rfl rfl rfl rfl (.free rfl)
    ·replace h := cond_f h c2
     refine tri_skip ?_
     refine tri_sr ?_
     refine m1 ?_
     refine m1 ?_
     refine bnd1_elim h fun x3 q4 h => ?_
     have q4a := (idx_some q4).1; have q4b := (idx_some q4).2
     refine s_indexFZ rfl rfl rfl sl33 q4a (get_ltM q4b) rfl rfl rfl ?_
     refine s_loadF rfl rfl (rowG q4b) ty9 rfl (.inr rfl) (by conv => lhs; whnf) rfl rfl rfl ?_
     refine m2 ?_
     refine rt_nil ?_
     refine tri_sr ?_
     refine m1 ?_
     refine m1 ?_
     refine bnd1_elim h fun x5 q6 h => ?_
     refine s_callN (kb := []) (ns := []) (v := .sc (.int .i64 x5)) rfl rfl cl175 (wcmp_Compare_string e1 x3 x5 q6) rfl (.cons (.free rfl) (.cons (.free rfl) .nil)) trivial memNil .nil memNil rfl trivial memNil rfl rfl rfl rfl rfl rfl ?_
     refine m2 ?_
     refine rt_nil ?_
     refine tri_sr ?_
     refine m1 ?_
     refine s_of (st_neI rfl rfl rfl) rfl rfl rfl rfl ?_
     refine rt_nil ?_
     refine tri_cond rfl (fun c7 => ?_) (fun c7 => ?_)
     ·replace h := cond_t h c7
      refine tri_sr ?_
      refine m1 ?_
      refine m2 ?_
      refine rt_nil ?_
      refine tri_ret ?_
      have e0 := (some1 h); subst e0
      exact endY [] [] (rvC (resTmp rfl) rvN) trivial trivial rfl rfl rfl rfl (.free rfl)
     ·replace h := cond_f h c7
      refine tri_skip ?_
      refine tri_region ?_
      refine s_inc (a := v1_0) (b := 1) rfl rfl rfl rfl (by have := get_lt hx1; have := hl1; omega) rfl rfl rfl ?_
      refine m1 ?_
      refine rt_nil ?_
      refine Exists.intro ⟨(rs1, (v1_0 + 1)), hn1, h⟩ (And.intro (Nat.lt_succ_self _) ?_)
      refine entX [] [] trivial trivial rfl rfl ?_
      exact ⟨(.free rfl), (.free rfl), (.free rfl), (.free rfl), (.free rfl), trivial⟩
   ·have he := drop_f hd1 c1; subst he
    rw [slices_Compare_string_l1] at h
    refine tri_exit ?_
    refine Exists.intro ⟨(), h⟩ ?_
    refine entX [] [] trivial trivial rfl rfl ?_
    exact ⟨(.free rfl), (.free rfl), trivial⟩
 ·rintro ⟨u, h⟩
  replace h : slices_Compare_string_j0 p0 p1 = some r0 := h
  unfold slices_Compare_string_j0 at h
  show Tri _ _ _ (inv_slices_Compare_string_0 p0 p1)
  refine tri_seq ?_
  refine tri_sr ?_
  refine m1 ?_
  refine s_lenL rfl sl33 rfl rfl rfl rfl ?_
  refine m1 ?_
  refine s_lenL rfl sl33 rfl rfl rfl rfl ?_
  refine s_of (st_lss rfl rfl rfl) rfl rfl rfl rfl ?_
  refine rt_nil ?_
  refine tri_cond rfl (fun c1 => ?_) (fun c1 => ?_)
  ·replace h := cond_t h c1
   refine tri_sr ?_
   refine s_mv (.inr rfl) (v := .sc (.int .i64 (-1))) rfl rfl rfl rfl ?_
   refine rt_nil ?_
   refine tri_ret ?_
   have e0 := (some1 h); subst e0
   exact endY [] [] (rvC (resTmp rfl) rvN) trivial trivial rfl rfl rfl rfl (.free rfl)
  ·replace h := cond_f h c1
   refine tri_skip ?_
   refine tri_sr ?_
   refine s_mv (.inr rfl) (v := .sc (.int .i64 0)) rfl rfl rfl rfl ?_
   refine rt_nil ?_
   refine tri_ret ?_
   have e0 := (some1 h); subst e0
   exact endY [] [] (rvC (resTmp rfl) rvN) trivial trivial rfl rfl rfl rfl (.free rfl)

/- impl.LessName -/

set_option maxRecDepth 4000 in
set_option maxHeartbeats 800000 in
theorem wi_LessName (p0 : ByteArray) (p1 : ByteArray) (r0 : Bool) (h : i_LessName p0 p1 = some r0) : Runs Tryd.prog 198 [.sc (.string p0), .sc (.string p1)] [] (.sc (.bool r0)) [] := by
 unfold i_LessName at h
 refine runsR [.tmp 4] Tryd.func198 rfl rfl rfl rfl ?_
 rw [Tryd.ntmps198]
 refine tri_sr ?_
 refine s_mv (.inr rfl) (v := .sc (.bool false)) rfl rfl rfl rfl ?_
 refine rt_nil ?_
 refine tri_sr ?_
 refine m1 ?_
 refine bnd1_elim h fun x1 q2 h => ?_
 refine s_callN (kb := []) (ns := []) (v := .ref (8, 0) 0 x1.length) rfl rfl cl96 (wi_Labels p0 x1 q2) rfl (.cons (.free rfl) .nil) trivial memNil .nil memNil rfl ⟨(allSc_map strV_sc), trivial⟩ memNil rfl (by simp only [V.mat, V.mat1, V.mat0, matL, matT, List.length_map] <;> rfl) rfl rfl rfl rfl ?_
 refine m1 ?_
 refine bnd1_elim h fun x3 q4 h => ?_
 refine s_callN (kb := []) (ns := []) (v := .ref (10, 0) 0 x3.length) rfl rfl cl96 (wi_Labels p1 x3 q4) rfl (.cons (.free rfl) .nil) trivial memNil .nil memNil rfl ⟨(allSc_map strV_sc), trivial⟩ memNil rfl (by simp only [V.mat, V.mat1, V.mat0, matL, matT, List.length_map] <;> rfl) rfl rfl rfl rfl ?_
 refine m2 ?_
 refine m2 ?_
 refine rt_nil ?_
 refine tri_sr ?_
 refine m1 ?_
 refine bnd1_elim h fun x5 q6 h => ?_
 refine grd_elim h fun g7 h => ?_
 refine s_callN (kb := []) (ns := [(8, 0)]) (v := .tup []) rfl rfl cl213 (wslices_Reverse_string x1 x5 q6) rfl (.cons (.refOwn rfl) .nil) ⟨⟨_, rfl, rfl⟩, trivial⟩ (memCons (allFree_map strV_free) memNil) (List.nodup_cons.2 ⟨List.not_mem_nil, .nil⟩) memNil rfl trivial (memCons (allSc_map strV_sc) memNil) rfl rfl rfl rfl rfl rfl ?_
 refine rt_nil ?_
 refine tri_sr ?_
 refine m1 ?_
 refine bnd1_elim h fun x8 q9 h => ?_
 refine grd_elim h fun g10 h => ?_
 refine s_callN (kb := []) (ns := [(10, 0)]) (v := .tup []) rfl rfl cl213 (wslices_Reverse_string x3 x8 q9) rfl (.cons (.refOwn rfl) .nil) ⟨⟨_, rfl, rfl⟩, trivial⟩ (memCons (allFree_map strV_free) memNil) (List.nodup_cons.2 ⟨List.not_mem_nil, .nil⟩) memNil rfl trivial (memCons (allSc_map strV_sc) memNil) rfl rfl rfl rfl rfl rfl ?_
 refine rt_nil ?_
 refine tri_sr ?_
 refine m1 ?_
 refine m1 ?_
 refine bnd1_elim h fun x11 q12 h => ?_
 refine s_callN (kb := [(8, 0), (10, 0)]) (ns := []) (v := .sc (.int .i64 x11)) rfl rfl cl214 (wslices_Compare_string x5 x8 x11 q12) rfl (.cons (lendL rfl (.head _) (by simp only [List.length_set, g7]) strV_free strV_len) (.cons (lendL rfl (.tail _ (.head _)) (by simp only [List.length_set, g10]) strV_free strV_len) .nil)) trivial memNil .nil (fun _ _ => List.not_mem_nil) rfl trivial memNil rfl rfl rfl rfl rfl rfl ?_
 refine s_of (st_lss rfl rfl rfl) rfl rfl rfl rfl ?_
 refine m2 ?_
 refine rt_nil ?_
 refine tri_ret ?_
 have e0 := (some1 h); subst e0
 exact endY [] [] (rvC (resTmp rfl) rvN) trivial trivial rfl rfl rfl rfl (.free rfl)

/- impl.byName -/

set_option maxRecDepth 4000 in
set_option maxHeartbeats 800000 in
theorem wi_byName (p0 : ByteArray) (p1 : ByteArray) (r0 : Int) (h : i_byName p0 p1 = some r0) : Runs Tryd.prog 173 [.sc (.string p0), .sc (.string p1)] [] (.sc (.int .i64 r0)) [] := by
 unfold i_byName at h
 refine runsR [.tmp 4] Tryd.func173 rfl rfl rfl rfl ?_
 rw [Tryd.ntmps173]
 refine tri_sr ?_
 refine s_mv (.inr rfl) (v := .sc (.int .i64 0)) rfl rfl rfl rfl ?_
 refine rt_nil ?_
 refine tri_seq ?_
 refine tri_block ?_
 refine tri_sr ?_
 refine m1 ?_
 refine m1 ?_
 refine bnd1_elim h fun x1 q2 h => ?_
 refine s_callN (kb := []) (ns := []) (v := .sc (.bool x1)) rfl rfl cl198 (wi_LessName p0 p1 x1 q2) rfl (.cons (.free rfl) (.cons (.free rfl) .nil)) trivial memNil .nil memNil rfl trivial memNil rfl rfl rfl rfl rfl rfl ?_
 refine m2 ?_
 refine rt_nil ?_
 refine tri_cond rfl (fun c3 => ?_) (fun c3 => ?_)
 ·replace h := cond_t h c3
  refine tri_sr ?_
  refine s_mv (.inr rfl) (v := .sc (.int .i64 (-1))) rfl rfl rfl rfl ?_
  refine rt_nil ?_
  refine tri_ret ?_
  have e0 := (some1 h); subst e0
  exact endY [] [] (rvC (resTmp rfl) rvN) trivial trivial rfl rfl rfl rfl (.free rfl)
 ·replace h := cond_f h c3
  refine tri_sr ?_
  refine m1 ?_
  refine m1 ?_
  refine bnd1_elim h fun x4 q5 h => ?_
  refine s_callN (kb := []) (ns := []) (v := .sc (.bool x4)) rfl rfl cl198 (wi_LessName p1 p0 x4 q5) rfl (.cons (.free rfl) (.cons (.free rfl) .nil)) trivial memNil .nil memNil rfl trivial memNil rfl rfl rfl rfl rfl rfl ?_
  refine m2 ?_
  refine rt_nil ?_
  refine tri_cond rfl (fun c6 => ?_) (fun c6 => ?_)
  ·replace h := cond_t h c6
   refine tri_sr ?_
   refine s_mv (.inr rfl) (v := .sc (.int .i64 1)) rfl rfl rfl rfl ?_
   refine rt_nil ?_
   refine tri_ret ?_
   have e0 := (some1 h); subst e0
   exact endY [] [] (rvC (resTmp rfl) rvN) trivial trivial rfl rfl rfl rfl (.free rfl)
  ·replace h := cond_f h c6
   refine tri_skip ?_
   refine tri_sr ?_
   refine s_mv (.inr rfl) (v := .sc (.int .i64 0)) rfl rfl rfl rfl ?_
   refine rt_nil ?_
   refine tri_ret ?_
   have e0 := (some1 h); subst e0
   exact endY [] [] (rvC (resTmp rfl) rvN) trivial trivial rfl rfl rfl rfl (.free rfl)

/- cmp.isNaN[int] -/

set_option maxRecDepth 4000 in
set_option maxHeartbeats 800000 in
theorem wcmp_isNaN_int (p0 : Int) (r0 : Bool) (h : cmp_isNaN_int p0 = some r0) : Runs Tryd.prog 199 [.sc (.int .i64 p0)] [] (.sc (.bool r0)) [] := by
 unfold cmp_isNaN_int at h
 refine runsR [.tmp 2] Tryd.func199 rfl rfl rfl rfl ?_
 rw [Tryd.ntmps199]
 refine tri_sr ?_
 refine s_mv (.inr rfl) (v := .sc (.bool false)) rfl rfl rfl rfl ?_
 refine rt_nil ?_
 refine tri_sr ?_
 refine m1 ?_
 refine m1 ?_
 refine s_of (st_neI rfl rfl rfl) rfl rfl rfl rfl ?_
 refine m2 ?_
 refine rt_nil ?_
 refine tri_ret ?_
 have e0 := (some1 h); subst e0
 exact endY [] [] (rvC (resTmp rfl) rvN) trivial trivial rfl rfl rfl rfl (.free rfl)

/- cmp.Compare[int] -/

set_option maxRecDepth 4000 in
set_option maxHeartbeats 800000 in
theorem wcmp_Compare_int (p0 : Int) (p1 : Int) (r0 : Int) (h : cmp_Compare_int p0 p1 = some r0) : Runs Tryd.prog 174 [.sc (.int .i64 p0), .sc (.int .i64 p1)] [] (.sc (.int .i64 r0)) [] := by
 unfold cmp_Compare_int at h
 refine runsR [.tmp 4] Tryd.func174 rfl rfl rfl rfl ?_
 rw [Tryd.ntmps174]
 refine tri_sr ?_
 refine s_mv (.inr rfl) (v := .sc (.int .i64 0)) rfl rfl rfl rfl ?_
 refine rt_nil ?_
 refine tri_sr ?_
 refine m1 ?_
 refine bnd1_elim h fun x1 q2 h => ?_
 refine s_callN (kb := []) (ns := []) (v := .sc (.bool x1)) rfl rfl cl199 (wcmp_isNaN_int p0 x1 q2) rfl (.cons (.free rfl) .nil) trivial memNil .nil memNil rfl trivial memNil rfl rfl rfl rfl rfl rfl ?_
 refine m2 ?_
 refine rt_nil ?_
 refine tri_sr ?_
 refine m1 ?_
 refine bnd1_elim h fun x3 q4 h => ?_
 refine s_callN (kb := []) (ns := []) (v := .sc (.bool x3)) rfl rfl cl199 (wcmp_isNaN_int p1 x3 q4) rfl (.cons (.free rfl) .nil) trivial memNil .nil memNil rfl trivial memNil rfl rfl rfl rfl rfl rfl ?_
 refine m2 ?_
 refine rt_nil ?_
 refine tri_seq ?_
 refine tri_sr ?_
 refine m1 ?_
 refine rt_nil ?_
 refine tri_cond rfl (fun c5 => ?_) (fun c5 => ?_)
 ·replace h := cond_t h c5
  refine tri_seq ?_
  refine tri_sr ?_
  refine m1 ?_
  refine rt_nil ?_
  refine tri_cond rfl (fun c6 => ?_) (fun c6 => ?_)
  ·replace h := cond_t h c6
   refine tri_sr ?_
   refine s_mv (.inr rfl) (v := .sc (.int .i64 0)) rfl rfl rfl rfl ?_
   refine rt_nil ?_
   refine tri_ret ?_
   have e0 := (some1 h); subst e0
   exact endY [] [] (rvC (resTmp rfl) rvN) trivial trivial rfl rfl rfl rfl (.free rfl)
  ·replace h := cond_f h c6
   refine tri_skip ?_
   refine tri_sr ?_
   refine s_mv (.inr rfl) (v := .sc (.int .i64 (-1))) rfl rfl rfl rfl ?_
   refine rt_nil ?_
   refine tri_ret ?_
   have e0 := (some1 h); subst e0
   exact endY [] [] (rvC (resTmp rfl) rvN) trivial trivial rfl rfl rfl rfl (.free rfl)
 ·replace h := cond_f h c5
  refine tri_skip ?_
  refine tri_seq ?_
  refine tri_sr ?_
  refine m1 ?_
  refine rt_nil ?_
  refine tri_cond rfl (fun c7 => ?_) (fun c7 => ?_)
  ·replace h := cond_t h c7
   refine tri_sr ?_
   refine s_mv (.inr rfl) (v := .sc (.int .i64 1)) rfl rfl rfl rfl ?_
   refine rt_nil ?_
   refine tri_ret ?_
   have e0 := (some1 h); subst e0
   exact endY [] [] (rvC (resTmp rfl) rvN) trivial trivial rfl rfl rfl rfl (.free rfl)
  ·replace h := cond_f h c7
   refine tri_skip ?_
   refine tri_seq ?_
   refine tri_sr ?_
   refine m1 ?_
   refine m1 ?_
   refine s_of (st_lss rfl rfl rfl) rfl rfl rfl rfl ?_
   refine rt_nil ?_
   refine tri_cond rfl (fun c8 => ?_) (fun c8 => ?_)
   ·replace h := cond_t h c8
    refine tri_sr ?_
    refine s_mv (.inr rfl) (v := .sc (.int .i64 (-1))) rfl rfl rfl rfl ?_
    refine rt_nil ?_
    refine tri_ret ?_
    have e0 := (some1 h); subst e0
    exact endY [] [] (rvC (resTmp rfl) rvN) trivial trivial rfl rfl rfl rfl (.free rfl)
   ·replace h := cond_f h c8
    refine tri_skip ?_
    refine tri_seq ?_
    refine tri_sr ?_
    refine m1 ?_
    refine m1 ?_
    refine s_of (st_gtr rfl rfl rfl) rfl rfl rfl rfl ?_
    refine rt_nil ?_
    refine tri_cond rfl (fun c9 => ?_) (fun c9 => ?_)
    ·replace h := cond_t h c9
     refine tri_sr ?_
     refine s_mv (.inr rfl) (v := .sc (.int .i64 1)) rfl rfl rfl rfl ?_
     refine rt_nil ?_
     refine tri_ret ?_
     have e0 := (some1 h); subst e0
     exact endY [] [] (rvC (resTmp rfl) rvN) trivial trivial rfl rfl rfl rfl (.free rfl)
    ·replace h := cond_f h c9
     refine tri_skip ?_
     refine tri_sr ?_
     refine s_mv (.inr rfl) (v := .sc (.int .i64 0)) rfl rfl rfl rfl ?_
     refine rt_nil ?_
     refine tri_ret ?_
     have e0 := (some1 h); subst e0
     exact endY [] [] (rvC (resTmp rfl) rvN) trivial trivial rfl rfl rfl rfl (.free rfl)

/- cmp.Or[int] -/
def inv_cmp_Or_int_0 (p0 : List Int) (v0_0 : Nat) : St := mkT 18 [(3, .sc (.int .i64 0)), (6, .lst 1 (List.map intV p0)), (7, .sc (.int .i64 (p0.length : Int))), (8, .sc (.int .i64 (v0_0 : Int)))] []
set_option maxRecDepth 4000 in
set_option maxHeartbeats 800000 in
theorem wcmp_Or_int (p0 : List Int) (r0 : Int) (h : cmp_Or_int p0 = some r0) : Runs Tryd.prog 172 [.lst 1 (List.map intV p0)] [] (.sc (.int .i64 r0)) [] := by
 unfold cmp_Or_int at h
 refine runsR [.tmp 2] Tryd.func172 rfl rfl rfl rfl ?_
 rw [Tryd.ntmps172]
 refine tri_sr ?_
 refine s_mv (.inr rfl) (v := .sc (.int .i64 0)) rfl rfl rfl rfl ?_
 refine rt_nil ?_
 refine tri_sr ?_
 refine s_mv (.inr rfl) (v := .sc (.int .i64 0)) rfl rfl rfl rfl ?_
 refine rt_nil ?_
 refine tri_seq ?_
 refine tri_sr ?_
 refine m1 ?_
 refine s_lenL rfl sl76 rfl rfl rfl rfl ?_
 refine s_mv (.inl rfl) (v := .sc (.int .i64 0)) rfl rfl rfl rfl ?_
 refine rt_nil ?_
 refine tri_block ?_
 refine tri_lstM 0 rfl (fun hl0 => ?_)
 refine tri_loop (ι := { p : (List Int) × Nat // p0.drop p.2 = p.1 ∧ cmp_Or_int_l0 p.1 p.2 = some r0 }) (fun p => inv_cmp_Or_int_0 p0 p.1.2) (fun p => p.1.1.length) ⟨(p0, 0), rfl, h⟩ ?_ ?_
 ·skip
  refine entX [] [] trivial trivial rfl rfl ?_
  exact ⟨(.free rfl), (.free rfl), (.free rfl), (.free rfl), trivial⟩
 ·rintro ⟨⟨lrs0, v0_0⟩, hd0, h⟩
  replace hd0 : p0.drop v0_0 = lrs0 := hd0
  replace h : cmp_Or_int_l0 lrs0 v0_0 = some r0 := h
  show Tri _ _ _ (inv_cmp_Or_int_0 p0 v0_0)
  refine tri_sr ?_
  refine s_of (st_lss rfl rfl rfl) rfl rfl rfl rfl ?_
  refine rt_nil ?_
  refine tri_seq ?_
  refine tri_cond rfl (fun c1 => ?_) (fun c1 => ?_)
  ·refine drop_elim hd0 c1 fun e0 rs0 he hx0 hn0 => ?_
   subst he
   rw [cmp_Or_int_l0] at h
   refine tri_skip ?_
   refine tri_seq ?_
   refine tri_block ?_
   refine tri_sr ?_
   refine s_indexF (i := v0_0) rfl rfl rfl sl76 (get_ltM hx0) rfl rfl rfl ?_
   refine s_loadF rfl rfl (rowG hx0) ty3 rfl (.inr rfl) (by conv => lhs; whnf) rfl rfl rfl ?_
   refine m2 ?_
   refine rt_nil ?_
   refine tri_sr ?_
   refine m1 ?_
   refine m1 ?_
   refine s_of (st_neI rfl rfl rfl) rfl rfl rfl rfl ?_
   refine rt_nil ?_
   refine tri_cond rfl (fun c2 => ?_) (fun c2 => ?_)
   ·replace h := cond_t h c2
    refine tri_sr ?_
    refine m1 ?_
    refine m2 ?_
    refine rt_nil ?_
    refine tri_ret ?_
    have e0 := (some1 h); subst e0
    exact endY [] [] (rvC (resTmp rfl) rvN) trivial trivial rfl rfl rfl rfl (.free rfl)
   ·replace h := cond_f h c2
    refine tri_skip ?_
    refine tri_region ?_
    refine s_inc (a := v0_0) (b := 1) rfl rfl rfl rfl (by have := get_lt hx0; have := hl0; omega) rfl rfl rfl ?_
    refine m1 ?_
    refine rt_nil ?_
    refine Exists.intro ⟨(rs0, (v0_0 + 1)), hn0, h⟩ (And.intro (Nat.lt_succ_self _) ?_)
    refine entX [] [] trivial trivial rfl rfl ?_
    exact ⟨(.free rfl), (.free rfl), (.free rfl), (.free rfl), trivial⟩
  ·have he := drop_f hd0 c1; subst he
   rw [cmp_Or_int_l0] at h
   refine tri_exit ?_
   refine tri_sr ?_
   refine m1 ?_
   refine m2 ?_
   refine rt_nil ?_
   refine tri_ret ?_
   have e0 := (some1 h); subst e0
   exact endY [] [] (rvC (resTmp rfl) rvN) trivial trivial rfl rfl rfl rfl (.free rfl)

/- impl.byRecord -/

set_option maxRecDepth 4000 in
set_option maxHeartbeats 800000 in
theorem wi_byRecord (p0 : Rec) (p1 : Rec) (r0 : Int) (h : i_byRecord p0 p1 = some r0) : Runs Tryd.prog 126 [.agg (recV p0), .agg (recV p1)] [] (.sc (.int .i64 r0)) [] := by
 unfold i_byRecord at h
 refine runsR [.tmp 4] Tryd.func126 rfl rfl rfl rfl ?_
 rw [Tryd.ntmps126]
 refine tri_sr ?_
 refine s_box rfl rfl rfl rfl rfl rfl rfl ?_
 refine s_box rfl rfl rfl rfl rfl rfl rfl ?_
 refine s_mv (.inr rfl) (v := .sc (.int .i64 0)) rfl rfl rfl rfl ?_
 refine rt_nil ?_
 refine tri_seq ?_
 refine tri_draw mixed ?_
 refine s_fieldAddr rfl rfl fd39_0 rfl rfl rfl rfl ?_
 refine s_load rfl rfl rfl rfl ty9 rfl (.inr rfl) (by conv => lhs; whnf) rfl rfl rfl ?_
 refine s_fieldAddr rfl rfl fd39_0 rfl rfl rfl rfl ?_
 refine s_load rfl rfl rfl rfl ty9 rfl (.inr rfl) (by conv => lhs; whnf) rfl rfl rfl ?_
 refine bnd1_elim h fun x1 q2 h => ?_
 refine s_callN (kb := []) (ns := []) (v := .sc (.int .i64 x1)) rfl rfl cl173 (wi_byName p0.name p1.name x1 q2) rfl (.cons (.free rfl) (.cons (.free rfl) .nil)) trivial memNil .nil memNil rfl trivial memNil rfl rfl rfl rfl rfl rfl ?_
 refine s_fieldAddr rfl rfl fd39_1 rfl rfl rfl rfl ?_
 refine s_load rfl rfl rfl rfl ty3 rfl (.inr rfl) (by conv => lhs; whnf) rfl rfl rfl ?_
 refine s_fieldAddr rfl rfl fd39_1 rfl rfl rfl rfl ?_
 refine s_load rfl rfl rfl rfl ty3 rfl (.inr rfl) (by conv => lhs; whnf) rfl rfl rfl ?_
 refine bnd1_elim h fun x3 q4 h => ?_
 refine s_callN (kb := []) (ns := []) (v := .sc (.int .i64 x3)) rfl rfl cl174 (wcmp_Compare_int p0.ty p1.ty x3 q4) rfl (.cons (.free rfl) (.cons (.free rfl) .nil)) trivial memNil .nil memNil rfl trivial memNil rfl rfl rfl rfl rfl rfl ?_
 refine s_fieldAddr rfl rfl fd39_3 rfl rfl rfl rfl ?_
 refine s_load rfl rfl rfl rfl ty3 rfl (.inr rfl) (by conv => lhs; whnf) rfl rfl rfl ?_
 refine s_fieldAddr rfl rfl fd39_3 rfl rfl rfl rfl ?_
 refine s_load rfl rfl rfl rfl ty3 rfl (.inr rfl) (by conv => lhs; whnf) rfl rfl rfl ?_
 refine bnd1_elim h fun x5 q6 h => ?_
 refine s_callN (kb := []) (ns := []) (v := .sc (.int .i64 x5)) rfl rfl cl174 (wcmp_Compare_int p0.n p1.n x5 q6) rfl (.cons (.free rfl) (.cons (.free rfl) .nil)) trivial memNil .nil memNil rfl trivial memNil rfl rfl rfl rfl rfl rfl ?_
 refine s_fieldAddr rfl rfl fd39_4 rfl rfl rfl rfl ?_
 refine s_load rfl rfl rfl rfl ty9 rfl (.inr rfl) (by conv => lhs; whnf) rfl rfl rfl ?_
 refine s_fieldAddr rfl rfl fd39_4 rfl rfl rfl rfl ?_
 refine s_load rfl rfl rfl rfl ty9 rfl (.inr rfl) (by conv => lhs; whnf) rfl rfl rfl ?_
 refine bnd1_elim h fun x7 q8 h => ?_
 refine s_callN (kb := []) (ns := []) (v := .sc (.int .i64 x7)) rfl rfl cl173 (wi_byName p0.host p1.host x7 q8) rfl (.cons (.free rfl) (.cons (.free rfl) .nil)) trivial memNil .nil memNil rfl trivial memNil rfl rfl rfl rfl rfl rfl ?_
 refine s_fieldAddr rfl rfl fd39_5 rfl rfl rfl rfl ?_
 refine s_load rfl rfl rfl rfl ty9 rfl (.inr rfl) (by conv => lhs; whnf) rfl rfl rfl ?_
 refine s_fieldAddr rfl rfl fd39_5 rfl rfl rfl rfl ?_
 refine s_load rfl rfl rfl rfl ty9 rfl (.inr rfl) (by conv => lhs; whnf) rfl rfl rfl ?_
 refine bnd1_elim h fun x9 q10 h => ?_
 refine s_callN (kb := []) (ns := []) (v := .sc (.int .i64 x9)) rfl rfl cl175 (wcmp_Compare_string p0.text p1.text x9 q10) rfl (.cons (.free rfl) (.cons (.free rfl) .nil)) trivial memNil .nil memNil rfl trivial memNil rfl rfl rfl rfl rfl rfl ?_
 refine s_fieldAddr rfl rfl fd39_2 rfl rfl rfl rfl ?_
 refine s_load rfl rfl rfl rfl ty3 rfl (.inr rfl) (by conv => lhs; whnf) rfl rfl rfl ?_
 refine s_fieldAddr rfl rfl fd39_2 rfl rfl rfl rfl ?_
 refine s_load rfl rfl rfl rfl ty3 rfl (.inr rfl) (by conv => lhs; whnf) rfl rfl rfl ?_
 refine bnd1_elim h fun x11 q12 h => ?_
 refine s_callN (kb := []) (ns := []) (v := .sc (.int .i64 x11)) rfl rfl cl174 (wcmp_Compare_int p0.ttl p1.ttl x11 q12) rfl (.cons (.free rfl) (.cons (.free rfl) .nil)) trivial memNil .nil memNil rfl trivial memNil rfl rfl rfl rfl rfl rfl ?_
 refine s_buildSlice (rows' := List.map intV [x1, x3, x5, x7, x9, x11]) rfl rfl rfl sl76 zc3 rfl rfl rfl rfl rfl rfl rfl rfl rfl ?_
 refine bnd1_elim h fun x13 q14 h => ?_
 refine s_callN (kb := [(35, 0)]) (ns := []) (v := .sc (.int .i64 x13)) rfl rfl cl172 (wcmp_Or_int [x1, x3, x5, x7, x9, x11] x13 q14) rfl (.cons (lendL rfl (.head _) rfl intV_free intV_len) .nil) trivial memNil .nil (fun _ _ => List.not_mem_nil) rfl trivial memNil rfl rfl rfl rfl rfl rfl ?_
 refine m2 ?_
 refine rt_nil ⟨drawFast (by kernel_rfl), ?_⟩
 refine tri_ret ?_
 have e0 := (some1 h); subst e0
 exact endY [] [] (rvC (resTmp rfl) rvN) trivial trivial rfl rfl rfl rfl (.free rfl)

/- impl.SortRecords -/

set_option maxRecDepth 4000 in
set_option maxHeartbeats 800000 in
theorem wi_SortRecords (p0 : List Rec) (r0 : List Rec) (h : i_SortRecords p0 = some r0) : Runs Tryd.prog 47 [.lst 6 (List.map recV p0)] [] (.own 39 6 (List.map recV r0)) [] := by
 unfold i_SortRecords at h
 refine runsR [.tmp 2] Tryd.func47 rfl rfl rfl rfl ?_
 rw [Tryd.ntmps47]
 refine tri_sr ?_
 refine s_mv (.inr rfl) (v := .nils) rfl rfl rfl rfl ?_
 refine rt_nil ?_
 refine tri_sr ?_
 refine m1 ?_
 refine bnd1_elim h fun x1 q2 h => ?_
 refine s_callN (kb := []) (ns := []) (v := .ref (5, 0) 0 x1.length) rfl rfl cl124 (wslices_Clone_Record p0 x1 q2) rfl (.cons (.free rfl) .nil) trivial memNil .nil memNil rfl ⟨(allSc_map recV_sc), trivial⟩ memNil rfl (by simp only [V.mat, V.mat1, V.mat0, matL, matT, List.length_map] <;> rfl) rfl rfl rfl rfl ?_
 refine m2 ?_
 refine rt_nil ?_
 refine tri_sr ?_
 refine m1 ?_
 refine bnd1_elim h fun x3 q4 h => ?_
 refine grd_elim h fun g5 h => ?_
 refine s_callN (kb := []) (ns := [(5, 0)]) (v := .tup []) rfl rfl cl125 (wslices_SortStableFunc_Record x1 126 [] rfl cl126 (fun a0 a1 => i_byRecord a0 a1) (fun a0 a1 v0 hv => wi_byRecord a0 a1 v0 hv) x3 q4) rfl (.cons (.refOwn rfl) (.cons relFn0 .nil)) ⟨⟨_, rfl, rfl⟩, trivial⟩ (memCons (allFree_map recV_free) memNil) (List.nodup_cons.2 ⟨List.not_mem_nil, .nil⟩) memNil rfl trivial (memCons (allSc_map recV_sc) memNil) rfl rfl rfl rfl rfl rfl ?_
 refine rt_nil ?_
 refine tri_sr ?_
 refine m1 ?_
 refine m2 ?_
 refine rt_nil ?_
 refine tri_ret ?_
 have e0 := (some1 h); subst e0
 exact endY (v' := .ref (2000, 0) 0 x3.length) [((2000, 0), ⟨39, 6, List.map recV x3, false, true⟩, some (5, 0))] [] (rvC (resTmp rfl) rvN) ⟨⟨rfl, _, rfl, rfl, rfl, rfl, id, rowsCv_eq rfl (allFree_map recV_free), rowsZ_map recV_len⟩, trivial⟩ trivial rfl rfl (by kernel_rfl) (by simp only [V.mat, V.mat1, V.mat0, matL, matT, List.length_map] <;> rfl) (cvRefLen rfl (by simp only [List.length_set, g5]))

end Go.Abs.M
