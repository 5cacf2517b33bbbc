/- Walks of the functions that the law of FnClassesBent reaches: what each of them computes, where its pure function does not fail. -/
import Derived.Test.YtbkmnbpgpklojaaDoorWalkFnClassesBent2
set_option linter.unusedSimpArgs false
set_option linter.unusedVariables false
namespace Go.Abs.M
open Go Go.Abs Go.Proofs
theorem cl11 : callable Tryd.prog 11 = true := by kernel_rfl
theorem cl145 : callable Tryd.prog 145 = true := by kernel_rfl
theorem cl26 : callable Tryd.prog 26 = true := by kernel_rfl
theorem cl29 : callable Tryd.prog 29 = true := by kernel_rfl
theorem cl41 : callable Tryd.prog 41 = true := by kernel_rfl
theorem cl56 : callable Tryd.prog 56 = true := by kernel_rfl
theorem cl76 : callable Tryd.prog 76 = true := by kernel_rfl
theorem cl80 : callable Tryd.prog 80 = true := by kernel_rfl
theorem cl83 : callable Tryd.prog 83 = true := by kernel_rfl
theorem cl84 : callable Tryd.prog 84 = true := by kernel_rfl
theorem cl85 : callable Tryd.prog 85 = true := by kernel_rfl
theorem cl86 : callable Tryd.prog 86 = true := by kernel_rfl
theorem cl87 : callable Tryd.prog 87 = true := by kernel_rfl
theorem cl92 : callable Tryd.prog 92 = true := by kernel_rfl
theorem isb4 : isBool Tryd.prog 4 = true := by kernel_rfl
/- slices.Contains[[]string,string] -/

set_option maxRecDepth 4000 in
set_option maxHeartbeats 800000 in
theorem wslices_Contains_string (p0 : List ByteArray) (p1 : ByteArray) (r0 : Bool) (h : slices_Contains_string p0 p1 = some r0) : Runs Tryd.prog 92 [.lst 1 (List.map strV p0), .sc (.string p1)] [] (.sc (.bool r0)) [] := by
 unfold slices_Contains_string at h
 refine runsR [.tmp 4] Tryd.func92 rfl rfl rfl rfl ?_
 rw [Tryd.ntmps92]
 refine tri_sr ?_
 refine s_mv (.inr rfl) (v := .sc (.bool false)) rfl rfl rfl rfl ?_
 refine rt_nil ?_
 refine tri_sr ?_
 refine m1 ?_
 refine m1 ?_
 refine bnd1_elim h fun x1 q2 h => ?_
 refine s_callN (kb := []) (ns := []) (v := .sc (.int .i64 x1)) rfl rfl cl145 (wslices_Index_string p0 p1 x1 q2) rfl (.cons (.free rfl) (.cons (.free rfl) .nil)) trivial memNil .nil memNil rfl trivial memNil rfl rfl rfl rfl rfl rfl ?_
 refine s_of (st_geq rfl rfl rfl) rfl rfl rfl rfl ?_
 refine m2 ?_
 refine rt_nil ?_
 refine tri_ret ?_
 have e0 := (some1 h); subst e0
 exact endY [] [] (rvC (resTmp rfl) rvN) trivial trivial rfl rfl rfl rfl (.free rfl)

/- impl.Hosts -/
def inv_i_Hosts_1 (p0 : List Rec) (v0_0 : List ByteArray) (v0_1 : Nat) (e0 : Rec) (j1_0 : Bool) : St := mkT 30 [(3, .ref (2003, 0) 0 v0_0.length), (5, .ptr (5, 0) 0 0), (7, .lst 6 (List.map recV p0)), (8, .sc (.int .i64 (p0.length : Int))), (9, .sc (.int .i64 (v0_1 : Int))), (22, .sc (.bool j1_0))] [((2003, 0), some ⟨9, 1, List.map strV v0_0, false, true⟩), ((5, 0), some ⟨39, 6, [[.sc (.string e0.name), .sc (.int .i64 e0.ty), .sc (.int .i64 e0.ttl), .sc (.int .i64 e0.n), .sc (.string e0.host), .sc (.string e0.text)]], false, true⟩)]
def inv_i_Hosts_0 (p0 : List Rec) (v0_0 : List ByteArray) (v0_1 : Nat) : St := mkT 30 [(3, .ref (2003, 0) 0 v0_0.length), (7, .lst 6 (List.map recV p0)), (8, .sc (.int .i64 (p0.length : Int))), (9, .sc (.int .i64 (v0_1 : Int)))] [((2003, 0), some ⟨9, 1, List.map strV v0_0, false, true⟩)]
set_option maxRecDepth 4000 in
set_option maxHeartbeats 800000 in
theorem wi_Hosts (p0 : List Rec) (r0 : List ByteArray) (h : i_Hosts p0 = some r0) : Runs Tryd.prog 41 [.lst 6 (List.map recV p0)] [] (.own 9 1 (List.map strV r0)) [] := by
 unfold i_Hosts at h
 refine runsR [.tmp 2] Tryd.func41 rfl rfl rfl rfl ?_
 rw [Tryd.ntmps41]
 refine tri_sr ?_
 refine s_mv (.inr rfl) (v := .nils) rfl rfl rfl rfl ?_
 refine rt_nil ?_
 refine tri_sr ?_
 refine s_buildSlice (rows' := List.map strV ([] : List ByteArray)) rfl rfl rfl sl33 zc9 rfl rfl rfl rfl rfl rfl rfl rfl rfl ?_
 refine m2 ?_
 refine rt_nil ?_
 refine tri_seq ?_
 refine tri_sr ?_
 refine m1 ?_
 refine s_lenL rfl sl24 rfl rfl rfl rfl ?_
 refine s_mv (.inl rfl) (v := .sc (.int .i64 0)) rfl rfl rfl rfl ?_
 refine rt_nil ?_
 refine tri_block ?_
 refine tri_lstM 0 rfl (fun hl0 => ?_)
 refine tri_loop (ι := { p : (List Rec) × (List ByteArray) × Nat // p0.drop p.2.2 = p.1 ∧ i_Hosts_l0 p.1 p.2.1 p.2.2 = some r0 }) (fun p => inv_i_Hosts_0 p0 p.1.2.1 p.1.2.2) (fun p => p.1.1.length) ⟨(p0, ([] : List ByteArray), 0), rfl, h⟩ ?_ ?_
 ·skip
  refine entX [((2003, 0), ⟨9, 1, List.map strV ([] : List ByteArray), false, true⟩, some (6, 0))] [] ⟨⟨rfl, _, rfl, rfl, rfl, rfl, id, rowsCv_eq rfl (allFree_map strV_free), rowsZ_map strV_len⟩, trivial⟩ trivial rfl rfl ?_
  exact ⟨(.ref rfl), (.free rfl), (.free rfl), (.free rfl), trivial⟩
 ·rintro ⟨⟨lrs0, v0_0, v0_1⟩, hd0, h⟩
  replace hd0 : p0.drop v0_1 = lrs0 := hd0
  replace h : i_Hosts_l0 lrs0 v0_0 v0_1 = some r0 := h
  show Tri _ _ _ (inv_i_Hosts_0 p0 v0_0 v0_1)
  refine tri_sr ?_
  refine s_of (st_lss rfl rfl rfl) rfl rfl rfl rfl ?_
  refine rt_nil ?_
  refine tri_seq ?_
  refine tri_cond rfl (fun c1 => ?_) (fun c1 => ?_)
  ·refine drop_elim hd0 c1 fun e0 rs0 he hx0 hn0 => ?_
   subst he
   rw [i_Hosts_l0] at h
   refine tri_skip ?_
   refine tri_seq ?_
   refine tri_block ?_
   refine tri_sr ?_
   refine s_indexF (i := v0_1) rfl rfl rfl sl24 (get_ltM hx0) rfl rfl rfl ?_
   refine s_loadFR rfl rfl (rowG hx0) ty39 rfl rfl rfl ?_
   refine s_alloc rfl rfl rfl zc39 rfl rfl rfl rfl rfl ?_
   refine s_storeB rfl rfl rfl ty39 rfl rfl rfl rfl rfl ?_
   refine rt_nil ?_
   refine tri_cutI (ι := { p : Bool // i_Hosts_j1 v0_0 v0_1 e0 (i_Hosts_l0 rs0) p = some r0 }) (fun p => inv_i_Hosts_1 p0 v0_0 v0_1 e0 p.1) ?_ ?_
   ·skip
    refine tri_region ?_
    refine s_fieldAddr rfl rfl fd39_1 rfl rfl rfl rfl ?_
    refine s_load rfl rfl rfl rfl ty3 rfl (.inr rfl) (by conv => lhs; whnf) rfl rfl rfl ?_
    refine s_of (st_eqI rfl rfl rfl) rfl rfl rfl rfl ?_
    refine m1 ?_
    refine s_split (t := 16) rfl (fun b2 => ?_) (fun b2 => ?_)
    ·replace h := cond_t h b2
     refine m1 ?_
     refine s_fieldAddr rfl rfl fd39_4 rfl rfl rfl rfl ?_
     refine s_load rfl rfl rfl rfl ty9 rfl (.inr rfl) (by conv => lhs; whnf) rfl rfl rfl ?_
     refine bnd1_elim h fun x3 q4 h => ?_
     refine s_callN (kb := [(2003, 0)]) (ns := []) (v := .sc (.bool x3)) rfl rfl cl92 (wslices_Contains_string v0_0 e0.host x3 q4) rfl (.cons (lendL rfl (.head _) rfl strV_free strV_len) (.cons (.free rfl) .nil)) trivial memNil .nil (fun _ _ => List.not_mem_nil) rfl trivial memNil rfl rfl rfl rfl rfl rfl ?_
     refine s_of (st_not rfl rfl) rfl rfl rfl rfl ?_
     refine s_pickT rfl rfl (by conv => lhs; whnf) rfl rfl rfl ?_
     refine rt_nil ?_
     refine Exists.intro ⟨!x3, h⟩ ?_
     refine entX [((2003, 0), ⟨9, 1, List.map strV v0_0, false, true⟩, some (2003, 0)), ((5, 0), ⟨39, 6, [[.sc (.string e0.name), .sc (.int .i64 e0.ty), .sc (.int .i64 e0.ttl), .sc (.int .i64 e0.n), .sc (.string e0.host), .sc (.string e0.text)]], false, true⟩, some (5, 0))] [] ⟨⟨rfl, _, rfl, rfl, rfl, rfl, id, rowsCv_eq rfl (allFree_map strV_free), rowsZ_map strV_len⟩, ⟨rfl, _, rfl, rfl, rfl, rfl, id, rowsCv_one (.cons (.free rfl) (.cons (.free rfl) (.cons (.free rfl) (.cons (.free rfl) (.cons (.free rfl) (.cons (.free rfl) .nil)))))), rowsZ_one rfl⟩, trivial⟩ trivial rfl rfl ?_
     exact ⟨(.ref rfl), (.ptr rfl), (.free rfl), (.free rfl), (.free rfl), (.free rfl), trivial⟩
    ·replace h := cond_f h b2
     refine s_skip rfl rfl rfl ?_
     refine s_skip rfl rfl rfl ?_
     refine s_skip rfl rfl rfl ?_
     refine s_skip rfl rfl rfl ?_
     refine s_skip rfl rfl rfl ?_
     refine s_pickF rfl rfl (v := .sc (.bool false)) rfl rfl rfl rfl ?_
     refine rt_nil ?_
     refine Exists.intro ⟨false, h⟩ ?_
     refine entX [((2003, 0), ⟨9, 1, List.map strV v0_0, false, true⟩, some (2003, 0)), ((5, 0), ⟨39, 6, [[.sc (.string e0.name), .sc (.int .i64 e0.ty), .sc (.int .i64 e0.ttl), .sc (.int .i64 e0.n), .sc (.string e0.host), .sc (.string e0.text)]], false, true⟩, some (5, 0))] [] ⟨⟨rfl, _, rfl, rfl, rfl, rfl, id, rowsCv_eq rfl (allFree_map strV_free), rowsZ_map strV_len⟩, ⟨rfl, _, rfl, rfl, rfl, rfl, id, rowsCv_one (.cons (.free rfl) (.cons (.free rfl) (.cons (.free rfl) (.cons (.free rfl) (.cons (.free rfl) (.cons (.free rfl) .nil)))))), rowsZ_one rfl⟩, trivial⟩ trivial rfl rfl ?_
     exact ⟨(.ref rfl), (.ptr rfl), (.free rfl), (.free rfl), (.free rfl), (.free rfl), trivial⟩
   ·rintro ⟨j1_0, h⟩
    replace h : i_Hosts_j1 v0_0 v0_1 e0 (i_Hosts_l0 rs0) j1_0 = some r0 := h
    unfold i_Hosts_j1 at h
    show Tri _ _ _ (inv_i_Hosts_1 p0 v0_0 v0_1 e0 j1_0)
    refine tri_cond rfl (fun c2 => ?_) (fun c2 => ?_)
    ·replace h := cond_t h c2
     refine tri_region ?_
     refine m1 ?_
     refine s_fieldAddr rfl rfl fd39_4 rfl rfl rfl rfl ?_
     refine s_load rfl rfl rfl rfl ty9 rfl (.inr rfl) (by conv => lhs; whnf) rfl rfl rfl ?_
     refine s_buildSlice (rows' := List.map strV [e0.host]) rfl rfl rfl sl33 zc9 rfl rfl rfl rfl rfl rfl rfl rfl rfl ?_
     refine grd_elim h fun g3 h => ?_
     refine s_appL rfl rfl rfl sl33 zc9 rfl rfl rfl rfl rfl rfl (src_refL rfl rfl) g3 rfl rfl ?_
     refine m2 ?_
     refine rt_nil ?_
     refine tri_region ?_
     refine s_inc (a := v0_1) (b := 1) rfl rfl rfl rfl (by have := get_lt hx0; have := hl0; omega) rfl rfl rfl ?_
     refine m1 ?_
     refine rt_nil ?_
     refine Exists.intro ⟨(rs0, v0_0 ++ [e0.host], (v0_1 + 1)), hn0, h⟩ (And.intro (Nat.lt_succ_self _) ?_)
     refine entX [((2003, 0), ⟨9, 1, List.map strV (v0_0 ++ [e0.host]), false, true⟩, some (27, 0))] [] ⟨⟨rfl, _, rfl, rfl, rfl, rfl, id, rowsCv_eq rfl (allFree_map strV_free), rowsZ_map strV_len⟩, trivial⟩ trivial rfl rfl ?_
     exact ⟨(.ref rfl), (.free rfl), (.free rfl), (.free rfl), trivial⟩
    ·replace h := cond_f h c2
     refine tri_skip ?_
     refine tri_region ?_
     refine s_inc (a := v0_1) (b := 1) rfl rfl rfl rfl (by have := get_lt hx0; have := hl0; omega) rfl rfl rfl ?_
     refine m1 ?_
     refine rt_nil ?_
     refine Exists.intro ⟨(rs0, v0_0, (v0_1 + 1)), hn0, h⟩ (And.intro (Nat.lt_succ_self _) ?_)
     refine entX [((2003, 0), ⟨9, 1, List.map strV v0_0, false, true⟩, some (2003, 0))] [] ⟨⟨rfl, _, rfl, rfl, rfl, rfl, id, rowsCv_eq rfl (allFree_map strV_free), rowsZ_map strV_len⟩, trivial⟩ trivial rfl rfl ?_
     exact ⟨(.ref rfl), (.free rfl), (.free rfl), (.free rfl), trivial⟩
  ·have he := drop_f hd0 c1; subst he
   rw [i_Hosts_l0] at h
   refine tri_exit ?_
   refine tri_sr ?_
   refine m1 ?_
   refine m2 ?_
   refine rt_nil ?_
   refine tri_ret ?_
   have e0 := (some1 h); subst e0
   exact endY (v' := .ref (2000, 0) 0 v0_0.length) [((2000, 0), ⟨9, 1, List.map strV v0_0, false, true⟩, some (2003, 0))] [] (rvC (resTmp rfl) rvN) ⟨⟨rfl, _, rfl, rfl, rfl, rfl, id, rowsCv_eq rfl (allFree_map strV_free), rowsZ_map strV_len⟩, trivial⟩ trivial rfl rfl (by kernel_rfl) (by simp only [V.mat, V.mat1, V.mat0, matL, matT, List.length_map] <;> rfl) (.ref rfl)

/- impl.HelpersIn -/
def inv_i_HelpersIn_0 (p0 : MMsg) (p1 : ByteArray) (x3 : List ByteArray) (v0_0 : List Rec) (v0_1 : Nat) : St := mkT 29 [(1, .sc (.string p1)), (2, .ptr (2, 0) 0 0), (5, .ref (2005, 0) 0 v0_0.length), (12, .ref (12, 0) 0 x3.length), (13, .sc (.int .i64 (x3.length : Int))), (14, .sc (.int .i64 (v0_1 : Int)))] [((2, 0), some ⟨50, 12, [[.sc (.int .i64 p0.id), .sc (.bool p0.reply), .sc (.bool p0.auth), .sc (.bool p0.cut), .sc (.bool p0.want), .sc (.bool p0.can), .sc (.int .i64 p0.code), .sc (.string p0.q.name), .sc (.int .i64 p0.q.ty), .lst 6 (List.map recV p0.an), .lst 6 (List.map recV p0.au), .lst 6 (List.map recV p0.ad)]], false, true⟩), ((2005, 0), some ⟨39, 6, List.map recV v0_0, false, true⟩), ((12, 0), some ⟨9, 1, List.map strV x3, false, true⟩)]
set_option maxRecDepth 4000 in
set_option maxHeartbeats 800000 in
theorem wi_HelpersIn (p0 : MMsg) (p1 : ByteArray) (r0 : List Rec) (h : i_HelpersIn p0 p1 = some r0) : Runs Tryd.prog 84 [.agg (mMsgV p0), .sc (.string p1)] [] (.own 39 6 (List.map recV r0)) [] := by
 unfold i_HelpersIn at h
 refine runsR [.tmp 4] Tryd.func84 rfl rfl rfl rfl ?_
 rw [Tryd.ntmps84]
 refine tri_sr ?_
 refine s_box rfl rfl rfl rfl rfl rfl rfl ?_
 refine s_mv (.inr rfl) (v := .nils) rfl rfl rfl rfl ?_
 refine rt_nil ?_
 refine tri_sr ?_
 refine s_buildSlice (rows' := List.map recV ([] : List Rec)) rfl rfl rfl sl24 zc39 rfl rfl rfl rfl rfl rfl rfl rfl rfl ?_
 refine m2 ?_
 refine rt_nil ?_
 refine tri_seq ?_
 refine tri_sr ?_
 refine s_loadR rfl rfl rfl rfl ty50 rfl rfl rfl ?_
 refine m1 ?_
 refine bnd1_elim h fun x1 q2 h => ?_
 refine s_callN (kb := []) (ns := []) (v := .ref (11, 0) 0 x1.length) rfl rfl cl29 (wi_ServersIn p0 p1 x1 q2) rfl (.cons (relAgg rfl) (.cons (.free rfl) .nil)) trivial memNil .nil memNil rfl ⟨(allSc_map recV_sc), trivial⟩ memNil rfl (by simp only [V.mat, V.mat1, V.mat0, matL, matT, List.length_map] <;> rfl) rfl rfl rfl rfl ?_
 refine bnd1_elim h fun x3 q4 h => ?_
 refine s_callN (kb := [(11, 0)]) (ns := []) (v := .ref (12, 0) 0 x3.length) rfl rfl cl41 (wi_Hosts x1 x3 q4) rfl (.cons (lendL rfl (.head _) rfl recV_free recV_len) .nil) trivial memNil .nil (fun _ _ => List.not_mem_nil) rfl ⟨(allSc_map strV_sc), trivial⟩ memNil rfl (by simp only [V.mat, V.mat1, V.mat0, matL, matT, List.length_map] <;> rfl) rfl rfl rfl rfl ?_
 refine s_len (m := x3.length) rfl sl33 rfl rfl rfl rfl ?_
 refine s_mv (.inl rfl) (v := .sc (.int .i64 0)) rfl rfl rfl rfl ?_
 refine rt_nil ?_
 refine tri_block ?_
 refine tri_ownM (12, 0) rfl (fun hl0 => ?_)
 refine tri_loop (ι := { p : (List ByteArray) × (List Rec) × Nat // x3.drop p.2.2 = p.1 ∧ i_HelpersIn_l0 p0 p1 p.1 p.2.1 p.2.2 = some r0 }) (fun p => inv_i_HelpersIn_0 p0 p1 x3 p.1.2.1 p.1.2.2) (fun p => p.1.1.length) ⟨(x3, ([] : List Rec), 0), rfl, h⟩ ?_ ?_
 ·skip
  refine entX [((2, 0), ⟨50, 12, [[.sc (.int .i64 p0.id), .sc (.bool p0.reply), .sc (.bool p0.auth), .sc (.bool p0.cut), .sc (.bool p0.want), .sc (.bool p0.can), .sc (.int .i64 p0.code), .sc (.string p0.q.name), .sc (.int .i64 p0.q.ty), .lst 6 (List.map recV p0.an), .lst 6 (List.map recV p0.au), .lst 6 (List.map recV p0.ad)]], false, true⟩, some (2, 0)), ((2005, 0), ⟨39, 6, List.map recV ([] : List Rec), false, true⟩, some (8, 0)), ((12, 0), ⟨9, 1, List.map strV x3, false, true⟩, some (12, 0))] [] ⟨⟨rfl, _, rfl, rfl, rfl, rfl, id, rowsCv_one (.cons (.free rfl) (.cons (.free rfl) (.cons (.free rfl) (.cons (.free rfl) (.cons (.free rfl) (.cons (.free rfl) (.cons (.free rfl) (.cons (.free rfl) (.cons (.free rfl) (.cons (.free rfl) (.cons (.free rfl) (.cons (.free rfl) .nil)))))))))))), rowsZ_one rfl⟩, ⟨rfl, _, rfl, rfl, rfl, rfl, id, rowsCv_eq rfl (allFree_map recV_free), rowsZ_map recV_len⟩, ⟨rfl, _, rfl, rfl, rfl, rfl, id, rowsCv_eq rfl (allFree_map strV_free), rowsZ_map strV_len⟩, trivial⟩ trivial rfl rfl ?_
  exact ⟨(.free rfl), (.ptr rfl), (.ref rfl), (.ref rfl), (.free rfl), (.free rfl), trivial⟩
 ·rintro ⟨⟨lrs0, v0_0, v0_1⟩, hd0, h⟩
  replace hd0 : x3.drop v0_1 = lrs0 := hd0
  replace h : i_HelpersIn_l0 p0 p1 lrs0 v0_0 v0_1 = some r0 := h
  show Tri _ _ _ (inv_i_HelpersIn_0 p0 p1 x3 v0_0 v0_1)
  refine tri_sr ?_
  refine s_of (st_lss rfl rfl rfl) rfl rfl rfl rfl ?_
  refine rt_nil ?_
  refine tri_seq ?_
  refine tri_cond rfl (fun c5 => ?_) (fun c5 => ?_)
  ·refine drop_elim hd0 c5 fun e0 rs0 he hx0 hn0 => ?_
   subst he
   rw [i_HelpersIn_l0] at h
   refine tri_skip ?_
   refine tri_seq ?_
   refine tri_block ?_
   refine tri_sr ?_
   refine s_index0 (i := v0_1) rfl rfl rfl rfl sl33 rfl (get_lt hx0) rfl rfl rfl ?_
   refine s_load rfl rfl rfl (rowG hx0) ty9 rfl (.inr rfl) (by conv => lhs; whnf) rfl rfl rfl ?_
   refine m2 ?_
   refine rt_nil ?_
   refine tri_sr ?_
   refine m1 ?_
   refine m1 ?_
   refine bnd1_elim h fun x6 q7 h => ?_
   refine s_callN (kb := []) (ns := []) (v := .sc (.bool x6)) rfl rfl cl17 (wi_Under e0 p1 x6 q7) rfl (.cons (.free rfl) (.cons (.free rfl) .nil)) trivial memNil .nil memNil rfl trivial memNil rfl rfl rfl rfl rfl rfl ?_
   refine rt_nil ?_
   refine tri_cond rfl (fun c8 => ?_) (fun c8 => ?_)
   ·replace h := cond_t h c8
    refine tri_region ?_
    refine m1 ?_
    refine s_fieldAddr rfl rfl fd50_10 rfl rfl rfl rfl ?_
    refine s_load rfl rfl rfl rfl ty24 rfl (.inr rfl) (by conv => lhs; whnf) rfl rfl rfl ?_
    refine m1 ?_
    refine bnd1_elim h fun x9 q10 h => ?_
    refine s_callN (kb := []) (ns := []) (v := .ref (25, 0) 0 x9.length) rfl rfl cl21 (wi_SetOf p0.ad e0 1 x9 q10) rfl (.cons (.free rfl) (.cons (.free rfl) (.cons (.free rfl) .nil))) trivial memNil .nil memNil rfl ⟨(allSc_map recV_sc), trivial⟩ memNil rfl (by simp only [V.mat, V.mat1, V.mat0, matL, matT, List.length_map] <;> rfl) rfl rfl rfl rfl ?_
    refine grd_elim h fun g11 h => ?_
    refine s_appL rfl rfl rfl sl24 zc39 rfl rfl rfl rfl rfl rfl (src_refL rfl rfl) g11 rfl rfl ?_
    refine m2 ?_
    refine rt_nil ?_
    refine tri_region ?_
    refine s_inc (a := v0_1) (b := 1) rfl rfl rfl rfl (by have := get_lt hx0; have := hl0; omega) rfl rfl rfl ?_
    refine m1 ?_
    refine rt_nil ?_
    refine Exists.intro ⟨(rs0, v0_0 ++ x9, (v0_1 + 1)), hn0, h⟩ (And.intro (Nat.lt_succ_self _) ?_)
    refine entX [((2, 0), ⟨50, 12, [[.sc (.int .i64 p0.id), .sc (.bool p0.reply), .sc (.bool p0.auth), .sc (.bool p0.cut), .sc (.bool p0.want), .sc (.bool p0.can), .sc (.int .i64 p0.code), .sc (.string p0.q.name), .sc (.int .i64 p0.q.ty), .lst 6 (List.map recV p0.an), .lst 6 (List.map recV p0.au), .lst 6 (List.map recV p0.ad)]], false, true⟩, some (2, 0)), ((2005, 0), ⟨39, 6, List.map recV (v0_0 ++ x9), false, true⟩, some (26, 0)), ((12, 0), ⟨9, 1, List.map strV x3, false, true⟩, some (12, 0))] [] ⟨⟨rfl, _, rfl, rfl, rfl, rfl, id, rowsCv_one (.cons (.free rfl) (.cons (.free rfl) (.cons (.free rfl) (.cons (.free rfl) (.cons (.free rfl) (.cons (.free rfl) (.cons (.free rfl) (.cons (.free rfl) (.cons (.free rfl) (.cons (.free rfl) (.cons (.free rfl) (.cons (.free rfl) .nil)))))))))))), rowsZ_one rfl⟩, ⟨rfl, _, rfl, rfl, rfl, rfl, id, rowsCv_eq rfl (allFree_map recV_free), rowsZ_map recV_len⟩, ⟨rfl, _, rfl, rfl, rfl, rfl, id, rowsCv_eq rfl (allFree_map strV_free), rowsZ_map strV_len⟩, trivial⟩ trivial rfl rfl ?_
    exact ⟨(.free rfl), (.ptr rfl), (.ref rfl), (.ref rfl), (.free rfl), (.free rfl), trivial⟩
   ·replace h := cond_f h c8
    refine tri_skip ?_
    refine tri_region ?_
    refine s_inc (a := v0_1) (b := 1) rfl rfl rfl rfl (by have := get_lt hx0; have := hl0; omega) rfl rfl rfl ?_
    refine m1 ?_
    refine rt_nil ?_
    refine Exists.intro ⟨(rs0, v0_0, (v0_1 + 1)), hn0, h⟩ (And.intro (Nat.lt_succ_self _) ?_)
    refine entX [((2, 0), ⟨50, 12, [[.sc (.int .i64 p0.id), .sc (.bool p0.reply), .sc (.bool p0.auth), .sc (.bool p0.cut), .sc (.bool p0.want), .sc (.bool p0.can), .sc (.int .i64 p0.code), .sc (.string p0.q.name), .sc (.int .i64 p0.q.ty), .lst 6 (List.map recV p0.an), .lst 6 (List.map recV p0.au), .lst 6 (List.map recV p0.ad)]], false, true⟩, some (2, 0)), ((2005, 0), ⟨39, 6, List.map recV v0_0, false, true⟩, some (2005, 0)), ((12, 0), ⟨9, 1, List.map strV x3, false, true⟩, some (12, 0))] [] ⟨⟨rfl, _, rfl, rfl, rfl, rfl, id, rowsCv_one (.cons (.free rfl) (.cons (.free rfl) (.cons (.free rfl) (.cons (.free rfl) (.cons (.free rfl) (.cons (.free rfl) (.cons (.free rfl) (.cons (.free rfl) (.cons (.free rfl) (.cons (.free rfl) (.cons (.free rfl) (.cons (.free rfl) .nil)))))))))))), rowsZ_one rfl⟩, ⟨rfl, _, rfl, rfl, rfl, rfl, id, rowsCv_eq rfl (allFree_map recV_free), rowsZ_map recV_len⟩, ⟨rfl, _, rfl, rfl, rfl, rfl, id, rowsCv_eq rfl (allFree_map strV_free), rowsZ_map strV_len⟩, trivial⟩ trivial rfl rfl ?_
    exact ⟨(.free rfl), (.ptr rfl), (.ref rfl), (.ref rfl), (.free rfl), (.free rfl), trivial⟩
  ·have he := drop_f hd0 c5; subst he
   rw [i_HelpersIn_l0] at h
   refine tri_exit ?_
   refine tri_sr ?_
   refine m1 ?_
   refine m2 ?_
   refine rt_nil ?_
   refine tri_ret ?_
   have e0 := (some1 h); subst e0
   exact endY (v' := .ref (2000, 0) 0 v0_0.length) [((2000, 0), ⟨39, 6, List.map recV v0_0, false, true⟩, some (2005, 0))] [] (rvC (resTmp rfl) rvN) ⟨⟨rfl, _, rfl, rfl, rfl, rfl, id, rowsCv_eq rfl (allFree_map recV_free), rowsZ_map recV_len⟩, trivial⟩ trivial rfl rfl (by kernel_rfl) (by simp only [V.mat, V.mat1, V.mat0, matL, matT, List.length_map] <;> rfl) (.ref rfl)

/- spec.HelpersIn -/
def inv_s_HelpersIn_0 (p0 : MMsg) (p1 : ByteArray) (x3 : List ByteArray) (v0_0 : List Rec) (v0_1 : Nat) : St := mkT 35 [(1, .sc (.string p1)), (2, .ptr (2, 0) 0 0), (5, .ref (2005, 0) 0 v0_0.length), (6, .ref (12, 0) 0 x3.length), (7, .sc (.int .i64 (v0_1 : Int)))] [((2, 0), some ⟨50, 12, [[.sc (.int .i64 p0.id), .sc (.bool p0.reply), .sc (.bool p0.auth), .sc (.bool p0.cut), .sc (.bool p0.want), .sc (.bool p0.can), .sc (.int .i64 p0.code), .sc (.string p0.q.name), .sc (.int .i64 p0.q.ty), .lst 6 (List.map recV p0.an), .lst 6 (List.map recV p0.au), .lst 6 (List.map recV p0.ad)]], false, true⟩), ((2005, 0), some ⟨39, 6, List.map recV v0_0, false, true⟩), ((12, 0), some ⟨9, 1, List.map strV x3, false, true⟩)]
set_option maxRecDepth 4000 in
set_option maxHeartbeats 800000 in
theorem ws_HelpersIn (p0 : MMsg) (p1 : ByteArray) (r0 : List Rec) (h : s_HelpersIn p0 p1 = some r0) : Runs Tryd.prog 85 [.agg (mMsgV p0), .sc (.string p1)] [] (.own 39 6 (List.map recV r0)) [] := by
 unfold s_HelpersIn at h
 refine runsR [.tmp 4] Tryd.func85 rfl rfl rfl rfl ?_
 rw [Tryd.ntmps85]
 refine tri_sr ?_
 refine s_box rfl rfl rfl rfl rfl rfl rfl ?_
 refine s_mv (.inr rfl) (v := .nils) rfl rfl rfl rfl ?_
 refine rt_nil ?_
 refine tri_sr ?_
 refine s_buildSlice (rows' := List.map recV ([] : List Rec)) rfl rfl rfl sl24 zc39 rfl rfl rfl rfl rfl rfl rfl rfl rfl ?_
 refine m2 ?_
 refine rt_nil ?_
 refine tri_sr ?_
 refine s_loadR rfl rfl rfl rfl ty50 rfl rfl rfl ?_
 refine m1 ?_
 refine bnd1_elim h fun x1 q2 h => ?_
 refine s_callN (kb := []) (ns := []) (v := .ref (11, 0) 0 x1.length) rfl rfl cl83 (ws_ServersIn p0 p1 x1 q2) rfl (.cons (relAgg rfl) (.cons (.free rfl) .nil)) trivial memNil .nil memNil rfl ⟨(allSc_map recV_sc), trivial⟩ memNil rfl (by simp only [V.mat, V.mat1, V.mat0, matL, matT, List.length_map] <;> rfl) rfl rfl rfl rfl ?_
 refine bnd1_elim h fun x3 q4 h => ?_
 refine s_callN (kb := [(11, 0)]) (ns := []) (v := .ref (12, 0) 0 x3.length) rfl rfl cl42 (ws_Hosts x1 x3 q4) rfl (.cons (lendL rfl (.head _) rfl recV_free recV_len) .nil) trivial memNil .nil (fun _ _ => List.not_mem_nil) rfl ⟨(allSc_map strV_sc), trivial⟩ memNil rfl (by simp only [V.mat, V.mat1, V.mat0, matL, matT, List.length_map] <;> rfl) rfl rfl rfl rfl ?_
 refine m2 ?_
 refine rt_nil ?_
 refine tri_seq ?_
 refine tri_sr ?_
 refine s_mv (.inr rfl) (v := .sc (.int .i64 0)) rfl rfl rfl rfl ?_
 refine rt_nil ?_
 refine tri_block ?_
 refine tri_ownM (12, 0) rfl (fun hl0 => ?_)
 refine tri_loop (ι := { p : (List ByteArray) × (List Rec) × Nat // x3.drop p.2.2 = p.1 ∧ s_HelpersIn_l0 p0 p1 p.1 p.2.1 p.2.2 = some r0 }) (fun p => inv_s_HelpersIn_0 p0 p1 x3 p.1.2.1 p.1.2.2) (fun p => p.1.1.length) ⟨(x3, ([] : List Rec), 0), rfl, h⟩ ?_ ?_
 ·skip
  refine entX [((2, 0), ⟨50, 12, [[.sc (.int .i64 p0.id), .sc (.bool p0.reply), .sc (.bool p0.auth), .sc (.bool p0.cut), .sc (.bool p0.want), .sc (.bool p0.can), .sc (.int .i64 p0.code), .sc (.string p0.q.name), .sc (.int .i64 p0.q.ty), .lst 6 (List.map recV p0.an), .lst 6 (List.map recV p0.au), .lst 6 (List.map recV p0.ad)]], false, true⟩, some (2, 0)), ((2005, 0), ⟨39, 6, List.map recV ([] : List Rec), false, true⟩, some (8, 0)), ((12, 0), ⟨9, 1, List.map strV x3, false, true⟩, some (12, 0))] [] ⟨⟨rfl, _, rfl, rfl, rfl, rfl, id, rowsCv_one (.cons (.free rfl) (.cons (.free rfl) (.cons (.free rfl) (.cons (.free rfl) (.cons (.free rfl) (.cons (.free rfl) (.cons (.free rfl) (.cons (.free rfl) (.cons (.free rfl) (.cons (.free rfl) (.cons (.free rfl) (.cons (.free rfl) .nil)))))))))))), rowsZ_one rfl⟩, ⟨rfl, _, rfl, rfl, rfl, rfl, id, rowsCv_eq rfl (allFree_map recV_free), rowsZ_map recV_len⟩, ⟨rfl, _, rfl, rfl, rfl, rfl, id, rowsCv_eq rfl (allFree_map strV_free), rowsZ_map strV_len⟩, trivial⟩ trivial rfl rfl ?_
  exact ⟨(.free rfl), (.ptr rfl), (.ref rfl), (.ref rfl), (.free rfl), trivial⟩
 ·rintro ⟨⟨lrs0, v0_0, v0_1⟩, hd0, h⟩
  replace hd0 : x3.drop v0_1 = lrs0 := hd0
  replace h : s_HelpersIn_l0 p0 p1 lrs0 v0_0 v0_1 = some r0 := h
  show Tri _ _ _ (inv_s_HelpersIn_0 p0 p1 x3 v0_0 v0_1)
  refine tri_seq ?_
  refine tri_sr ?_
  refine m1 ?_
  refine m1 ?_
  refine s_len (m := x3.length) rfl sl33 rfl rfl rfl rfl ?_
  refine s_of (st_lss rfl rfl rfl) rfl rfl rfl rfl ?_
  refine rt_nil ?_
  refine tri_cond rfl (fun c5 => ?_) (fun c5 => ?_)
  ·refine drop_elim hd0 c5 fun e0 rs0 he hx0 hn0 => ?_
   subst he
   rw [s_HelpersIn_l0] at h
   refine tri_skip ?_
   refine tri_seq ?_
   refine tri_block ?_
   refine tri_sr ?_
   refine m1 ?_
   refine m1 ?_
   refine s_index0 (i := v0_1) rfl rfl rfl rfl sl33 rfl (get_lt hx0) rfl rfl rfl ?_
   refine s_load rfl rfl rfl (rowG hx0) ty9 rfl (.inr rfl) (by conv => lhs; whnf) rfl rfl rfl ?_
   refine m1 ?_
   refine bnd1_elim h fun x6 q7 h => ?_
   refine s_callN (kb := []) (ns := []) (v := .sc (.bool x6)) rfl rfl cl127 (ws_Under e0 p1 x6 q7) rfl (.cons (.free rfl) (.cons (.free rfl) .nil)) trivial memNil .nil memNil rfl trivial memNil rfl rfl rfl rfl rfl rfl ?_
   refine rt_nil ?_
   refine tri_cond rfl (fun c8 => ?_) (fun c8 => ?_)
   ·replace h := cond_t h c8
    refine tri_draw mixed ?_
    refine m1 ?_
    refine s_fieldAddr rfl rfl fd50_10 rfl rfl rfl rfl ?_
    refine s_load rfl rfl rfl rfl ty24 rfl (.inr rfl) (by conv => lhs; whnf) rfl rfl rfl ?_
    refine m1 ?_
    refine m1 ?_
    refine s_index0 (i := v0_1) rfl rfl rfl rfl sl33 rfl (get_lt hx0) rfl rfl rfl ?_
    refine s_load rfl rfl rfl (rowG hx0) ty9 rfl (.inr rfl) (by conv => lhs; whnf) rfl rfl rfl ?_
    refine bnd1_elim h fun x9 q10 h => ?_
    refine s_callN (kb := []) (ns := []) (v := .ref (32, 0) 0 x9.length) rfl rfl cl128 (ws_SetOf p0.ad e0 1 x9 q10) rfl (.cons (.free rfl) (.cons (.free rfl) (.cons (.free rfl) .nil))) trivial memNil .nil memNil rfl ⟨(allSc_map recV_sc), trivial⟩ memNil rfl (by simp only [V.mat, V.mat1, V.mat0, matL, matT, List.length_map] <;> rfl) rfl rfl rfl rfl ?_
    refine grd_elim h fun g11 h => ?_
    refine s_appL rfl rfl rfl sl24 zc39 rfl rfl rfl rfl rfl rfl (src_refL rfl rfl) g11 rfl rfl ?_
    refine m2 ?_
    refine rt_nil ⟨by kernel_rfl, ?_⟩
    refine tri_region ?_
    refine m1 ?_
    refine s_inc (a := v0_1) (b := 1) rfl rfl rfl rfl (by have := get_lt hx0; have := hl0; omega) rfl rfl rfl ?_
    refine m2 ?_
    refine rt_nil ?_
    refine Exists.intro ⟨(rs0, v0_0 ++ x9, (v0_1 + 1)), hn0, h⟩ (And.intro (Nat.lt_succ_self _) ?_)
    refine entX [((2, 0), ⟨50, 12, [[.sc (.int .i64 p0.id), .sc (.bool p0.reply), .sc (.bool p0.auth), .sc (.bool p0.cut), .sc (.bool p0.want), .sc (.bool p0.can), .sc (.int .i64 p0.code), .sc (.string p0.q.name), .sc (.int .i64 p0.q.ty), .lst 6 (List.map recV p0.an), .lst 6 (List.map recV p0.au), .lst 6 (List.map recV p0.ad)]], false, true⟩, some (2, 0)), ((2005, 0), ⟨39, 6, List.map recV (v0_0 ++ x9), false, true⟩, some (33, 0)), ((12, 0), ⟨9, 1, List.map strV x3, false, true⟩, some (12, 0))] [] ⟨⟨rfl, _, rfl, rfl, rfl, rfl, id, rowsCv_one (.cons (.free rfl) (.cons (.free rfl) (.cons (.free rfl) (.cons (.free rfl) (.cons (.free rfl) (.cons (.free rfl) (.cons (.free rfl) (.cons (.free rfl) (.cons (.free rfl) (.cons (.free rfl) (.cons (.free rfl) (.cons (.free rfl) .nil)))))))))))), rowsZ_one rfl⟩, ⟨rfl, _, rfl, rfl, rfl, rfl, id, rowsCv_eq rfl (allFree_map recV_free), rowsZ_map recV_len⟩, ⟨rfl, _, rfl, rfl, rfl, rfl, id, rowsCv_eq rfl (allFree_map strV_free), rowsZ_map strV_len⟩, trivial⟩ trivial rfl rfl ?_
    exact ⟨(.free rfl), (.ptr rfl), (.ref rfl), (.ref rfl), (.free rfl), trivial⟩
   ·replace h := cond_f h c8
    refine tri_skip ?_
    refine tri_region ?_
    refine m1 ?_
    refine s_inc (a := v0_1) (b := 1) rfl rfl rfl rfl (by have := get_lt hx0; have := hl0; omega) rfl rfl rfl ?_
    refine m2 ?_
    refine rt_nil ?_
    refine Exists.intro ⟨(rs0, v0_0, (v0_1 + 1)), hn0, h⟩ (And.intro (Nat.lt_succ_self _) ?_)
    refine entX [((2, 0), ⟨50, 12, [[.sc (.int .i64 p0.id), .sc (.bool p0.reply), .sc (.bool p0.auth), .sc (.bool p0.cut), .sc (.bool p0.want), .sc (.bool p0.can), .sc (.int .i64 p0.code), .sc (.string p0.q.name), .sc (.int .i64 p0.q.ty), .lst 6 (List.map recV p0.an), .lst 6 (List.map recV p0.au), .lst 6 (List.map recV p0.ad)]], false, true⟩, some (2, 0)), ((2005, 0), ⟨39, 6, List.map recV v0_0, false, true⟩, some (2005, 0)), ((12, 0), ⟨9, 1, List.map strV x3, false, true⟩, some (12, 0))] [] ⟨⟨rfl, _, rfl, rfl, rfl, rfl, id, rowsCv_one (.cons (.free rfl) (.cons (.free rfl) (.cons (.free rfl) (.cons (.free rfl) (.cons (.free rfl) (.cons (.free rfl) (.cons (.free rfl) (.cons (.free rfl) (.cons (.free rfl) (.cons (.free rfl) (.cons (.free rfl) (.cons (.free rfl) .nil)))))))))))), rowsZ_one rfl⟩, ⟨rfl, _, rfl, rfl, rfl, rfl, id, rowsCv_eq rfl (allFree_map recV_free), rowsZ_map recV_len⟩, ⟨rfl, _, rfl, rfl, rfl, rfl, id, rowsCv_eq rfl (allFree_map strV_free), rowsZ_map strV_len⟩, trivial⟩ trivial rfl rfl ?_
    exact ⟨(.free rfl), (.ptr rfl), (.ref rfl), (.ref rfl), (.free rfl), trivial⟩
  ·have he := drop_f hd0 c5; subst he
   rw [s_HelpersIn_l0] at h
   refine tri_exit ?_
   refine tri_sr ?_
   refine m1 ?_
   refine m2 ?_
   refine rt_nil ?_
   refine tri_ret ?_
   have e0 := (some1 h); subst e0
   exact endY (v' := .ref (2000, 0) 0 v0_0.length) [((2000, 0), ⟨39, 6, List.map recV v0_0, false, true⟩, some (2005, 0))] [] (rvC (resTmp rfl) rvN) ⟨⟨rfl, _, rfl, rfl, rfl, rfl, id, rowsCv_eq rfl (allFree_map recV_free), rowsZ_map recV_len⟩, trivial⟩ trivial rfl rfl (by kernel_rfl) (by simp only [V.mat, V.mat1, V.mat0, matL, matT, List.length_map] <;> rfl) (.ref rfl)

/- impl.NothingFor -/
def inv_i_NothingFor_1 (p0 : MMsg) (p1 : ByteArray) (v0_0 : Nat) (e0 : Rec) (j1_0 : Bool) : St := mkT 29 [(1, .sc (.string p1)), (6, .ptr (6, 0) 0 0), (8, .lst 6 (List.map recV p0.au)), (9, .sc (.int .i64 (p0.au.length : Int))), (10, .sc (.int .i64 (v0_0 : Int))), (22, .sc (.bool j1_0))] [((6, 0), some ⟨39, 6, [[.sc (.string e0.name), .sc (.int .i64 e0.ty), .sc (.int .i64 e0.ttl), .sc (.int .i64 e0.n), .sc (.string e0.host), .sc (.string e0.text)]], false, true⟩)]
def inv_i_NothingFor_0 (p0 : MMsg) (p1 : ByteArray) (v0_0 : Nat) : St := mkT 29 [(1, .sc (.string p1)), (8, .lst 6 (List.map recV p0.au)), (9, .sc (.int .i64 (p0.au.length : Int))), (10, .sc (.int .i64 (v0_0 : Int)))] []
set_option maxRecDepth 4000 in
set_option maxHeartbeats 800000 in
theorem wi_NothingFor (p0 : MMsg) (p1 : ByteArray) (r0 : Int) (h : i_NothingFor p0 p1 = some r0) : Runs Tryd.prog 86 [.agg (mMsgV p0), .sc (.string p1)] [] (.sc (.int .i64 r0)) [] := by
 unfold i_NothingFor at h
 refine runsR [.tmp 4] Tryd.func86 rfl rfl rfl rfl ?_
 rw [Tryd.ntmps86]
 refine tri_sr ?_
 refine s_box rfl rfl rfl rfl rfl rfl rfl ?_
 refine s_mv (.inr rfl) (v := .sc (.int .i64 0)) rfl rfl rfl rfl ?_
 refine rt_nil ?_
 refine tri_seq ?_
 refine tri_sr ?_
 refine s_fieldAddr rfl rfl fd50_9 rfl rfl rfl rfl ?_
 refine s_load rfl rfl rfl rfl ty24 rfl (.inr rfl) (by conv => lhs; whnf) rfl rfl rfl ?_
 refine s_lenL rfl sl24 rfl rfl rfl rfl ?_
 refine s_mv (.inl rfl) (v := .sc (.int .i64 0)) rfl rfl rfl rfl ?_
 refine rt_nil ?_
 refine tri_block ?_
 refine tri_aggM 0 10 rfl rfl (fun hl0 => ?_)
 refine tri_loop (ι := { p : (List Rec) × Nat // p0.au.drop p.2 = p.1 ∧ i_NothingFor_l0 p1 p.1 p.2 = some r0 }) (fun p => inv_i_NothingFor_0 p0 p1 p.1.2) (fun p => p.1.1.length) ⟨(p0.au, 0), rfl, h⟩ ?_ ?_
 ·skip
  refine entX [] [] trivial trivial rfl rfl ?_
  exact ⟨(.free rfl), (.free rfl), (.free rfl), (.free rfl), trivial⟩
 ·rintro ⟨⟨lrs0, v0_0⟩, hd0, h⟩
  replace hd0 : p0.au.drop v0_0 = lrs0 := hd0
  replace h : i_NothingFor_l0 p1 lrs0 v0_0 = some r0 := h
  show Tri _ _ _ (inv_i_NothingFor_0 p0 p1 v0_0)
  refine tri_sr ?_
  refine s_of (st_lss rfl rfl rfl) rfl rfl rfl rfl ?_
  refine rt_nil ?_
  refine tri_seq ?_
  refine tri_cond rfl (fun c1 => ?_) (fun c1 => ?_)
  ·refine drop_elim hd0 c1 fun e0 rs0 he hx0 hn0 => ?_
   subst he
   rw [i_NothingFor_l0] at h
   refine tri_skip ?_
   refine tri_seq ?_
   refine tri_block ?_
   refine tri_sr ?_
   refine s_indexF (i := v0_0) rfl rfl rfl sl24 (get_ltM hx0) rfl rfl rfl ?_
   refine s_loadFR rfl rfl (rowG hx0) ty39 rfl rfl rfl ?_
   refine s_alloc rfl rfl rfl zc39 rfl rfl rfl rfl rfl ?_
   refine s_storeB rfl rfl rfl ty39 rfl rfl rfl rfl rfl ?_
   refine rt_nil ?_
   refine tri_cutI (ι := { p : Bool // i_NothingFor_j1 v0_0 e0 (i_NothingFor_l0 p1 rs0) p = some r0 }) (fun p => inv_i_NothingFor_1 p0 p1 v0_0 e0 p.1) ?_ ?_
   ·skip
    refine tri_region ?_
    refine s_fieldAddr rfl rfl fd39_1 rfl rfl rfl rfl ?_
    refine s_load rfl rfl rfl rfl ty3 rfl (.inr rfl) (by conv => lhs; whnf) rfl rfl rfl ?_
    refine s_of (st_eqI rfl rfl rfl) rfl rfl rfl rfl ?_
    refine m1 ?_
    refine s_split (t := 17) rfl (fun b2 => ?_) (fun b2 => ?_)
    ·replace h := cond_t h b2
     refine s_fieldAddr rfl rfl fd39_0 rfl rfl rfl rfl ?_
     refine s_load rfl rfl rfl rfl ty9 rfl (.inr rfl) (by conv => lhs; whnf) rfl rfl rfl ?_
     refine m1 ?_
     refine bnd1_elim h fun x3 q4 h => ?_
     refine s_callN (kb := []) (ns := []) (v := .sc (.bool x3)) rfl rfl cl17 (wi_Under e0.name p1 x3 q4) rfl (.cons (.free rfl) (.cons (.free rfl) .nil)) trivial memNil .nil memNil rfl trivial memNil rfl rfl rfl rfl rfl rfl ?_
     refine s_pickT rfl rfl (by conv => lhs; whnf) rfl rfl rfl ?_
     refine rt_nil ?_
     refine Exists.intro ⟨x3, h⟩ ?_
     refine entX [((6, 0), ⟨39, 6, [[.sc (.string e0.name), .sc (.int .i64 e0.ty), .sc (.int .i64 e0.ttl), .sc (.int .i64 e0.n), .sc (.string e0.host), .sc (.string e0.text)]], false, true⟩, some (6, 0))] [] ⟨⟨rfl, _, rfl, rfl, rfl, rfl, id, rowsCv_one (.cons (.free rfl) (.cons (.free rfl) (.cons (.free rfl) (.cons (.free rfl) (.cons (.free rfl) (.cons (.free rfl) .nil)))))), rowsZ_one rfl⟩, trivial⟩ trivial rfl rfl ?_
     exact ⟨(.free rfl), (.ptr rfl), (.free rfl), (.free rfl), (.free rfl), (.free rfl), trivial⟩
    ·replace h := cond_f h b2
     refine s_skip rfl rfl rfl ?_
     refine s_skip rfl rfl rfl ?_
     refine s_skip rfl rfl rfl ?_
     refine s_skip rfl rfl rfl ?_
     refine s_pickF rfl rfl (v := .sc (.bool false)) rfl rfl rfl rfl ?_
     refine rt_nil ?_
     refine Exists.intro ⟨false, h⟩ ?_
     refine entX [((6, 0), ⟨39, 6, [[.sc (.string e0.name), .sc (.int .i64 e0.ty), .sc (.int .i64 e0.ttl), .sc (.int .i64 e0.n), .sc (.string e0.host), .sc (.string e0.text)]], false, true⟩, some (6, 0))] [] ⟨⟨rfl, _, rfl, rfl, rfl, rfl, id, rowsCv_one (.cons (.free rfl) (.cons (.free rfl) (.cons (.free rfl) (.cons (.free rfl) (.cons (.free rfl) (.cons (.free rfl) .nil)))))), rowsZ_one rfl⟩, trivial⟩ trivial rfl rfl ?_
     exact ⟨(.free rfl), (.ptr rfl), (.free rfl), (.free rfl), (.free rfl), (.free rfl), trivial⟩
   ·rintro ⟨j1_0, h⟩
    replace h : i_NothingFor_j1 v0_0 e0 (i_NothingFor_l0 p1 rs0) j1_0 = some r0 := h
    unfold i_NothingFor_j1 at h
    show Tri _ _ _ (inv_i_NothingFor_1 p0 p1 v0_0 e0 j1_0)
    refine tri_cond rfl (fun c2 => ?_) (fun c2 => ?_)
    ·replace h := cond_t h c2
     refine tri_sr ?_
     refine s_fieldAddr rfl rfl fd39_3 rfl rfl rfl rfl ?_
     refine s_load rfl rfl rfl rfl ty3 rfl (.inr rfl) (by conv => lhs; whnf) rfl rfl rfl ?_
     refine s_fieldAddr rfl rfl fd39_2 rfl rfl rfl rfl ?_
     refine s_load rfl rfl rfl rfl ty3 rfl (.inr rfl) (by conv => lhs; whnf) rfl rfl rfl ?_
     refine s_of (st_minI rfl rfl rfl) rfl rfl rfl rfl ?_
     refine m2 ?_
     refine rt_nil ?_
     refine tri_ret ?_
     have e0 := (some1 h); subst e0
     exact endY [] [] (rvC (resTmp rfl) rvN) trivial trivial rfl rfl rfl rfl (.free rfl)
    ·replace h := cond_f h c2
     refine tri_skip ?_
     refine tri_region ?_
     refine s_inc (a := v0_0) (b := 1) rfl rfl rfl rfl (by have := get_lt hx0; have := hl0; omega) rfl rfl rfl ?_
     refine m1 ?_
     refine rt_nil ?_
     refine Exists.intro ⟨(rs0, (v0_0 + 1)), hn0, h⟩ (And.intro (Nat.lt_succ_self _) ?_)
     refine entX [] [] trivial trivial rfl rfl ?_
     exact ⟨(.free rfl), (.free rfl), (.free rfl), (.free rfl), trivial⟩
  ·have he := drop_f hd0 c1; subst he
   rw [i_NothingFor_l0] at h
   refine tri_exit ?_
   refine tri_sr ?_
   refine s_mv (.inr rfl) (v := .sc (.int .i64 0)) rfl rfl rfl rfl ?_
   refine rt_nil ?_
   refine tri_ret ?_
   have e0 := (some1 h); subst e0
   exact endY [] [] (rvC (resTmp rfl) rvN) trivial trivial rfl rfl rfl rfl (.free rfl)

/- spec.NothingFor -/
def inv_s_NothingFor_1 (p0 : MMsg) (p1 : ByteArray) (v0_0 : Nat) (j1_0 : Bool) : St := mkT 43 [(1, .sc (.string p1)), (2, .ptr (2, 0) 0 0), (5, .sc (.int .i64 (v0_0 : Int))), (29, .sc (.bool j1_0))] [((2, 0), some ⟨50, 12, [[.sc (.int .i64 p0.id), .sc (.bool p0.reply), .sc (.bool p0.auth), .sc (.bool p0.cut), .sc (.bool p0.want), .sc (.bool p0.can), .sc (.int .i64 p0.code), .sc (.string p0.q.name), .sc (.int .i64 p0.q.ty), .lst 6 (List.map recV p0.an), .lst 6 (List.map recV p0.au), .lst 6 (List.map recV p0.ad)]], false, true⟩)]
def inv_s_NothingFor_0 (p0 : MMsg) (p1 : ByteArray) (v0_0 : Nat) : St := mkT 43 [(1, .sc (.string p1)), (2, .ptr (2, 0) 0 0), (5, .sc (.int .i64 (v0_0 : Int)))] [((2, 0), some ⟨50, 12, [[.sc (.int .i64 p0.id), .sc (.bool p0.reply), .sc (.bool p0.auth), .sc (.bool p0.cut), .sc (.bool p0.want), .sc (.bool p0.can), .sc (.int .i64 p0.code), .sc (.string p0.q.name), .sc (.int .i64 p0.q.ty), .lst 6 (List.map recV p0.an), .lst 6 (List.map recV p0.au), .lst 6 (List.map recV p0.ad)]], false, true⟩)]
set_option maxRecDepth 4000 in
set_option maxHeartbeats 800000 in
theorem ws_NothingFor (p0 : MMsg) (p1 : ByteArray) (r0 : Int) (h : s_NothingFor p0 p1 = some r0) : Runs Tryd.prog 87 [.agg (mMsgV p0), .sc (.string p1)] [] (.sc (.int .i64 r0)) [] := by
 unfold s_NothingFor at h
 refine runsR [.tmp 4] Tryd.func87 rfl rfl rfl rfl ?_
 rw [Tryd.ntmps87]
 refine tri_sr ?_
 refine s_box rfl rfl rfl rfl rfl rfl rfl ?_
 refine s_mv (.inr rfl) (v := .sc (.int .i64 0)) rfl rfl rfl rfl ?_
 refine rt_nil ?_
 refine tri_seq ?_
 refine tri_sr ?_
 refine s_mv (.inr rfl) (v := .sc (.int .i64 0)) rfl rfl rfl rfl ?_
 refine rt_nil ?_
 refine tri_block ?_
 refine tri_aggM 0 10 rfl rfl (fun hl0 => ?_)
 refine tri_loop (ι := { p : (List Rec) × Nat // p0.au.drop p.2 = p.1 ∧ s_NothingFor_l0 p1 p.1 p.2 = some r0 }) (fun p => inv_s_NothingFor_0 p0 p1 p.1.2) (fun p => p.1.1.length) ⟨(p0.au, 0), rfl, h⟩ ?_ ?_
 ·skip
  refine entX [((2, 0), ⟨50, 12, [[.sc (.int .i64 p0.id), .sc (.bool p0.reply), .sc (.bool p0.auth), .sc (.bool p0.cut), .sc (.bool p0.want), .sc (.bool p0.can), .sc (.int .i64 p0.code), .sc (.string p0.q.name), .sc (.int .i64 p0.q.ty), .lst 6 (List.map recV p0.an), .lst 6 (List.map recV p0.au), .lst 6 (List.map recV p0.ad)]], false, true⟩, some (2, 0))] [] ⟨⟨rfl, _, rfl, rfl, rfl, rfl, id, rowsCv_one (.cons (.free rfl) (.cons (.free rfl) (.cons (.free rfl) (.cons (.free rfl) (.cons (.free rfl) (.cons (.free rfl) (.cons (.free rfl) (.cons (.free rfl) (.cons (.free rfl) (.cons (.free rfl) (.cons (.free rfl) (.cons (.free rfl) .nil)))))))))))), rowsZ_one rfl⟩, trivial⟩ trivial rfl rfl ?_
  exact ⟨(.free rfl), (.ptr rfl), (.free rfl), trivial⟩
 ·rintro ⟨⟨lrs0, v0_0⟩, hd0, h⟩
  replace hd0 : p0.au.drop v0_0 = lrs0 := hd0
  replace h : s_NothingFor_l0 p1 lrs0 v0_0 = some r0 := h
  show Tri _ _ _ (inv_s_NothingFor_0 p0 p1 v0_0)
  refine tri_seq ?_
  refine tri_sr ?_
  refine m1 ?_
  refine s_fieldAddr rfl rfl fd50_9 rfl rfl rfl rfl ?_
  refine s_load rfl rfl rfl rfl ty24 rfl (.inr rfl) (by conv => lhs; whnf) rfl rfl rfl ?_
  refine s_lenL rfl sl24 rfl rfl rfl rfl ?_
  refine s_of (st_lss rfl rfl rfl) rfl rfl rfl rfl ?_
  refine rt_nil ?_
  refine tri_cond rfl (fun c1 => ?_) (fun c1 => ?_)
  ·refine drop_elim hd0 c1 fun e0 rs0 he hx0 hn0 => ?_
   subst he
   rw [s_NothingFor_l0] at h
   refine tri_skip ?_
   refine tri_seq ?_
   refine tri_block ?_
   refine tri_cutI (ι := { p : Bool // s_NothingFor_j1 v0_0 e0 (s_NothingFor_l0 p1 rs0) p = some r0 }) (fun p => inv_s_NothingFor_1 p0 p1 v0_0 p.1) ?_ ?_
   ·skip
    refine tri_region ?_
    refine s_fieldAddr rfl rfl fd50_9 rfl rfl rfl rfl ?_
    refine s_load rfl rfl rfl rfl ty24 rfl (.inr rfl) (by conv => lhs; whnf) rfl rfl rfl ?_
    refine m1 ?_
    refine s_indexF (i := v0_0) rfl rfl rfl sl24 (get_ltM hx0) rfl rfl rfl ?_
    refine s_fieldAddrF rfl rfl fd39_1 rfl rfl rfl rfl ?_
    refine s_loadF rfl rfl (rowG hx0) ty3 rfl (.inr rfl) (by conv => lhs; whnf) rfl rfl rfl ?_
    refine s_of (st_eqI rfl rfl rfl) rfl rfl rfl rfl ?_
    refine m1 ?_
    refine s_split (t := 20) rfl (fun b2 => ?_) (fun b2 => ?_)
    ·replace h := cond_t h b2
     refine s_fieldAddr rfl rfl fd50_9 rfl rfl rfl rfl ?_
     refine s_load rfl rfl rfl rfl ty24 rfl (.inr rfl) (by conv => lhs; whnf) rfl rfl rfl ?_
     refine m1 ?_
     refine s_indexF (i := v0_0) rfl rfl rfl sl24 (get_ltM hx0) rfl rfl rfl ?_
     refine s_fieldAddrF rfl rfl fd39_0 rfl rfl rfl rfl ?_
     refine s_loadF rfl rfl (rowG hx0) ty9 rfl (.inr rfl) (by conv => lhs; whnf) rfl rfl rfl ?_
     refine m1 ?_
     refine bnd1_elim h fun x3 q4 h => ?_
     refine s_callN (kb := []) (ns := []) (v := .sc (.bool x3)) rfl rfl cl127 (ws_Under e0.name p1 x3 q4) rfl (.cons (.free rfl) (.cons (.free rfl) .nil)) trivial memNil .nil memNil rfl trivial memNil rfl rfl rfl rfl rfl rfl ?_
     refine s_pickT rfl rfl (by conv => lhs; whnf) rfl rfl rfl ?_
     refine rt_nil ?_
     refine Exists.intro ⟨x3, h⟩ ?_
     refine entX [((2, 0), ⟨50, 12, [[.sc (.int .i64 p0.id), .sc (.bool p0.reply), .sc (.bool p0.auth), .sc (.bool p0.cut), .sc (.bool p0.want), .sc (.bool p0.can), .sc (.int .i64 p0.code), .sc (.string p0.q.name), .sc (.int .i64 p0.q.ty), .lst 6 (List.map recV p0.an), .lst 6 (List.map recV p0.au), .lst 6 (List.map recV p0.ad)]], false, true⟩, some (2, 0))] [] ⟨⟨rfl, _, rfl, rfl, rfl, rfl, id, rowsCv_one (.cons (.free rfl) (.cons (.free rfl) (.cons (.free rfl) (.cons (.free rfl) (.cons (.free rfl) (.cons (.free rfl) (.cons (.free rfl) (.cons (.free rfl) (.cons (.free rfl) (.cons (.free rfl) (.cons (.free rfl) (.cons (.free rfl) .nil)))))))))))), rowsZ_one rfl⟩, trivial⟩ trivial rfl rfl ?_
     exact ⟨(.free rfl), (.ptr rfl), (.free rfl), (.free rfl), trivial⟩
    ·replace h := cond_f h b2
     refine s_skip rfl rfl rfl ?_
     refine s_skip rfl rfl rfl ?_
     refine s_skip rfl rfl rfl ?_
     refine s_skip rfl rfl rfl ?_
     refine s_skip rfl rfl rfl ?_
     refine s_skip rfl rfl rfl ?_
     refine s_skip rfl rfl rfl ?_
     refine s_skip rfl rfl rfl ?_
     refine s_pickF rfl rfl (v := .sc (.bool false)) rfl rfl rfl rfl ?_
     refine rt_nil ?_
     refine Exists.intro ⟨false, h⟩ ?_
     refine entX [((2, 0), ⟨50, 12, [[.sc (.int .i64 p0.id), .sc (.bool p0.reply), .sc (.bool p0.auth), .sc (.bool p0.cut), .sc (.bool p0.want), .sc (.bool p0.can), .sc (.int .i64 p0.code), .sc (.string p0.q.name), .sc (.int .i64 p0.q.ty), .lst 6 (List.map recV p0.an), .lst 6 (List.map recV p0.au), .lst 6 (List.map recV p0.ad)]], false, true⟩, some (2, 0))] [] ⟨⟨rfl, _, rfl, rfl, rfl, rfl, id, rowsCv_one (.cons (.free rfl) (.cons (.free rfl) (.cons (.free rfl) (.cons (.free rfl) (.cons (.free rfl) (.cons (.free rfl) (.cons (.free rfl) (.cons (.free rfl) (.cons (.free rfl) (.cons (.free rfl) (.cons (.free rfl) (.cons (.free rfl) .nil)))))))))))), rowsZ_one rfl⟩, trivial⟩ trivial rfl rfl ?_
     exact ⟨(.free rfl), (.ptr rfl), (.free rfl), (.free rfl), trivial⟩
   ·rintro ⟨j1_0, h⟩
    replace h : s_NothingFor_j1 v0_0 e0 (s_NothingFor_l0 p1 rs0) j1_0 = some r0 := h
    unfold s_NothingFor_j1 at h
    show Tri _ _ _ (inv_s_NothingFor_1 p0 p1 v0_0 j1_0)
    refine tri_cond rfl (fun c2 => ?_) (fun c2 => ?_)
    ·replace h := cond_t h c2
     refine tri_seq ?_
     refine tri_draw mixed ?_
     refine s_fieldAddr rfl rfl fd50_9 rfl rfl rfl rfl ?_
     refine s_load rfl rfl rfl rfl ty24 rfl (.inr rfl) (by conv => lhs; whnf) rfl rfl rfl ?_
     refine m1 ?_
     refine s_indexF (i := v0_0) rfl rfl rfl sl24 (get_ltM hx0) rfl rfl rfl ?_
     refine s_fieldAddrF rfl rfl fd39_3 rfl rfl rfl rfl ?_
     refine s_loadF rfl rfl (rowG hx0) ty3 rfl (.inr rfl) (by conv => lhs; whnf) rfl rfl rfl ?_
     refine s_fieldAddr rfl rfl fd50_9 rfl rfl rfl rfl ?_
     refine s_load rfl rfl rfl rfl ty24 rfl (.inr rfl) (by conv => lhs; whnf) rfl rfl rfl ?_
     refine m1 ?_
     refine s_indexF (i := v0_0) rfl rfl rfl sl24 (get_ltM hx0) rfl rfl rfl ?_
     refine s_fieldAddrF rfl rfl fd39_2 rfl rfl rfl rfl ?_
     refine s_loadF rfl rfl (rowG hx0) ty3 rfl (.inr rfl) (by conv => lhs; whnf) rfl rfl rfl ?_
     refine bnd1_elim h fun x3 q4 h => ?_
     refine s_callN (kb := []) (ns := []) (v := .sc (.int .i64 x3)) rfl rfl cl139 (ws_Least e0.n e0.ttl x3 q4) rfl (.cons (.free rfl) (.cons (.free rfl) .nil)) trivial memNil .nil memNil rfl trivial memNil rfl rfl rfl rfl rfl rfl ?_
     refine m2 ?_
     refine rt_nil ⟨by kernel_rfl, ?_⟩
     refine tri_ret ?_
     have e0 := (some1 h); subst e0
     exact endY [] [] (rvC (resTmp rfl) rvN) trivial trivial rfl rfl rfl rfl (.free rfl)
    ·replace h := cond_f h c2
     refine tri_skip ?_
     refine tri_region ?_
     refine m1 ?_
     refine s_inc (a := v0_0) (b := 1) rfl rfl rfl rfl (by have := get_lt hx0; have := hl0; omega) rfl rfl rfl ?_
     refine m2 ?_
     refine rt_nil ?_
     refine Exists.intro ⟨(rs0, (v0_0 + 1)), hn0, h⟩ (And.intro (Nat.lt_succ_self _) ?_)
     refine entX [((2, 0), ⟨50, 12, [[.sc (.int .i64 p0.id), .sc (.bool p0.reply), .sc (.bool p0.auth), .sc (.bool p0.cut), .sc (.bool p0.want), .sc (.bool p0.can), .sc (.int .i64 p0.code), .sc (.string p0.q.name), .sc (.int .i64 p0.q.ty), .lst 6 (List.map recV p0.an), .lst 6 (List.map recV p0.au), .lst 6 (List.map recV p0.ad)]], false, true⟩, some (2, 0))] [] ⟨⟨rfl, _, rfl, rfl, rfl, rfl, id, rowsCv_one (.cons (.free rfl) (.cons (.free rfl) (.cons (.free rfl) (.cons (.free rfl) (.cons (.free rfl) (.cons (.free rfl) (.cons (.free rfl) (.cons (.free rfl) (.cons (.free rfl) (.cons (.free rfl) (.cons (.free rfl) (.cons (.free rfl) .nil)))))))))))), rowsZ_one rfl⟩, trivial⟩ trivial rfl rfl ?_
     exact ⟨(.free rfl), (.ptr rfl), (.free rfl), trivial⟩
  ·have he := drop_f hd0 c1; subst he
   rw [s_NothingFor_l0] at h
   refine tri_exit ?_
   refine tri_sr ?_
   refine s_mv (.inr rfl) (v := .sc (.int .i64 0)) rfl rfl rfl rfl ?_
   refine rt_nil ?_
   refine tri_ret ?_
   have e0 := (some1 h); subst e0
   exact endY [] [] (rvC (resTmp rfl) rvN) trivial trivial rfl rfl rfl rfl (.free rfl)

/- laws.FnClassesBent -/
def inv_w_FnClassesBent_5 (x4 : MMsg) (x5 : ByteArray) (x22 : List Rec) (v4_0 : Nat) (j5_0 : Bool) : St := mkT 173 [(3, .ptr (3, 0) 0 0), (4, .sc (.string x5)), (15, .ref (137, 0) 0 x22.length), (16, .sc (.int .i64 (v4_0 : Int))), (172, .sc (.bool j5_0))] [((3, 0), some ⟨50, 12, [[.sc (.int .i64 x4.id), .sc (.bool x4.reply), .sc (.bool x4.auth), .sc (.bool x4.cut), .sc (.bool x4.want), .sc (.bool x4.can), .sc (.int .i64 x4.code), .sc (.string x4.q.name), .sc (.int .i64 x4.q.ty), .ref (21, 109) 0 x4.an.length, .ref (21, 110) 0 x4.au.length, .ref (21, 111) 0 x4.ad.length]], false, true⟩), ((21, 109), some ⟨39, 6, List.map recV x4.an, false, true⟩), ((21, 110), some ⟨39, 6, List.map recV x4.au, false, true⟩), ((21, 111), some ⟨39, 6, List.map recV x4.ad, false, true⟩), ((137, 0), some ⟨39, 6, List.map recV x22, false, true⟩)]
def inv_w_FnClassesBent_4 (x4 : MMsg) (x5 : ByteArray) (x22 : List Rec) (v4_0 : Nat) : St := mkT 173 [(3, .ptr (3, 0) 0 0), (4, .sc (.string x5)), (15, .ref (137, 0) 0 x22.length), (16, .sc (.int .i64 (v4_0 : Int)))] [((3, 0), some ⟨50, 12, [[.sc (.int .i64 x4.id), .sc (.bool x4.reply), .sc (.bool x4.auth), .sc (.bool x4.cut), .sc (.bool x4.want), .sc (.bool x4.can), .sc (.int .i64 x4.code), .sc (.string x4.q.name), .sc (.int .i64 x4.q.ty), .ref (21, 109) 0 x4.an.length, .ref (21, 110) 0 x4.au.length, .ref (21, 111) 0 x4.ad.length]], false, true⟩), ((21, 109), some ⟨39, 6, List.map recV x4.an, false, true⟩), ((21, 110), some ⟨39, 6, List.map recV x4.au, false, true⟩), ((21, 111), some ⟨39, 6, List.map recV x4.ad, false, true⟩), ((137, 0), some ⟨39, 6, List.map recV x22, false, true⟩)]
def inv_w_FnClassesBent_3 (x4 : MMsg) (x5 : ByteArray) (x20 : List Rec) (v2_0 : Nat) (j3_0 : Bool) : St := mkT 173 [(3, .ptr (3, 0) 0 0), (4, .sc (.string x5)), (13, .ref (112, 0) 0 x20.length), (14, .sc (.int .i64 (v2_0 : Int))), (134, .sc (.bool j3_0))] [((3, 0), some ⟨50, 12, [[.sc (.int .i64 x4.id), .sc (.bool x4.reply), .sc (.bool x4.auth), .sc (.bool x4.cut), .sc (.bool x4.want), .sc (.bool x4.can), .sc (.int .i64 x4.code), .sc (.string x4.q.name), .sc (.int .i64 x4.q.ty), .ref (21, 109) 0 x4.an.length, .ref (21, 110) 0 x4.au.length, .ref (21, 111) 0 x4.ad.length]], false, true⟩), ((21, 109), some ⟨39, 6, List.map recV x4.an, false, true⟩), ((21, 110), some ⟨39, 6, List.map recV x4.au, false, true⟩), ((21, 111), some ⟨39, 6, List.map recV x4.ad, false, true⟩), ((112, 0), some ⟨39, 6, List.map recV x20, false, true⟩)]
def inv_w_FnClassesBent_2 (x4 : MMsg) (x5 : ByteArray) (x20 : List Rec) (v2_0 : Nat) : St := mkT 173 [(3, .ptr (3, 0) 0 0), (4, .sc (.string x5)), (13, .ref (112, 0) 0 x20.length), (14, .sc (.int .i64 (v2_0 : Int)))] [((3, 0), some ⟨50, 12, [[.sc (.int .i64 x4.id), .sc (.bool x4.reply), .sc (.bool x4.auth), .sc (.bool x4.cut), .sc (.bool x4.want), .sc (.bool x4.can), .sc (.int .i64 x4.code), .sc (.string x4.q.name), .sc (.int .i64 x4.q.ty), .ref (21, 109) 0 x4.an.length, .ref (21, 110) 0 x4.au.length, .ref (21, 111) 0 x4.ad.length]], false, true⟩), ((21, 109), some ⟨39, 6, List.map recV x4.an, false, true⟩), ((21, 110), some ⟨39, 6, List.map recV x4.au, false, true⟩), ((21, 111), some ⟨39, 6, List.map recV x4.ad, false, true⟩), ((112, 0), some ⟨39, 6, List.map recV x20, false, true⟩)]
def inv_w_FnClassesBent_1 (x4 : MMsg) (x5 : ByteArray) : St := mkT 173 [(3, .ptr (3, 0) 0 0), (4, .sc (.string x5))] [((3, 0), some ⟨50, 12, [[.sc (.int .i64 x4.id), .sc (.bool x4.reply), .sc (.bool x4.auth), .sc (.bool x4.cut), .sc (.bool x4.want), .sc (.bool x4.can), .sc (.int .i64 x4.code), .sc (.string x4.q.name), .sc (.int .i64 x4.q.ty), .ref (21, 109) 0 x4.an.length, .ref (21, 110) 0 x4.au.length, .ref (21, 111) 0 x4.ad.length]], false, true⟩), ((21, 109), some ⟨39, 6, List.map recV x4.an, false, true⟩), ((21, 110), some ⟨39, 6, List.map recV x4.au, false, true⟩), ((21, 111), some ⟨39, 6, List.map recV x4.ad, false, true⟩)]
def inv_w_FnClassesBent_0 (x4 : MMsg) (x5 : ByteArray) (j0_0 : Bool) : St := mkT 173 [(3, .ptr (3, 0) 0 0), (4, .sc (.string x5)), (109, .sc (.bool j0_0))] [((3, 0), some ⟨50, 12, [[.sc (.int .i64 x4.id), .sc (.bool x4.reply), .sc (.bool x4.auth), .sc (.bool x4.cut), .sc (.bool x4.want), .sc (.bool x4.can), .sc (.int .i64 x4.code), .sc (.string x4.q.name), .sc (.int .i64 x4.q.ty), .ref (21, 109) 0 x4.an.length, .ref (21, 110) 0 x4.au.length, .ref (21, 111) 0 x4.ad.length]], false, true⟩), ((21, 109), some ⟨39, 6, List.map recV x4.an, false, true⟩), ((21, 110), some ⟨39, 6, List.map recV x4.au, false, true⟩), ((21, 111), some ⟨39, 6, List.map recV x4.ad, false, true⟩)]
set_option maxRecDepth 4000 in
set_option maxHeartbeats 800000 in
theorem ww_FnClassesBent (p0 : List Int) (r0 : Bool) (h : w_FnClassesBent p0 = some r0) : Runs Tryd.prog 10 [.lst 1 (List.map byteV p0)] [] (.sc (.bool r0)) [] := by
 unfold w_FnClassesBent at h
 refine runsR [.tmp 2] Tryd.func10 rfl rfl rfl rfl ?_
 rw [Tryd.ntmps10]
 refine tri_sr ?_
 refine s_mv (.inr rfl) (v := .sc (.bool false)) rfl rfl rfl rfl ?_
 refine rt_nil ?_
 refine tri_seq ?_
 refine tri_sr ?_
 refine m1 ?_
 refine bnd1_elim h fun x1 q2 h => ?_
 refine s_callN (kb := []) (ns := []) (v := .sc (.bool x1)) rfl rfl cl11 (ww_big p0 x1 q2) rfl (.cons (.free rfl) .nil) trivial memNil .nil memNil rfl trivial memNil rfl rfl rfl rfl rfl rfl ?_
 refine rt_nil ?_
 refine tri_cond rfl (fun c3 => ?_) (fun c3 => ?_)
 ·replace h := cond_t h c3
  refine tri_sr ?_
  refine s_mv (.inr rfl) (v := .sc (.bool true)) rfl rfl rfl rfl ?_
  refine rt_nil ?_
  refine tri_ret ?_
  have e0 := (some1 h); subst e0
  exact endY [] [] (rvC (resTmp rfl) rvN) trivial trivial rfl rfl rfl rfl (.free rfl)
 ·replace h := cond_f h c3
  refine tri_skip ?_
  refine tri_sr ?_
  refine m1 ?_
  refine bnd2_elim h fun x4 x5 q6 h => ?_
  refine s_callN (kb := []) (ns := []) (v := .tup [.agg [.sc (.int .i64 x4.id), .sc (.bool x4.reply), .sc (.bool x4.auth), .sc (.bool x4.cut), .sc (.bool x4.want), .sc (.bool x4.can), .sc (.int .i64 x4.code), .sc (.string x4.q.name), .sc (.int .i64 x4.q.ty), .ref (21, 109) 0 x4.an.length, .ref (21, 110) 0 x4.au.length, .ref (21, 111) 0 x4.ad.length], .sc (.string x5)]) rfl rfl cl76 (ws_DrawClassOf p0 x4 x5 q6) rfl (.cons (.free rfl) .nil) trivial memNil .nil memNil rfl ⟨(allSc_map recV_sc), ⟨(allSc_map recV_sc), ⟨(allSc_map recV_sc), trivial⟩⟩⟩ memNil rfl (by simp only [V.mat, V.mat1, V.mat0, matL, matT, List.length_map] <;> rfl) rfl rfl rfl rfl ?_
  refine m1 ?_
  refine s_extract rfl rfl rfl rfl rfl rfl ?_
  refine s_extract rfl rfl rfl rfl rfl rfl ?_
  refine s_alloc rfl rfl rfl zc50 rfl rfl rfl rfl rfl ?_
  refine s_storeB rfl rfl rfl ty50 rfl rfl rfl rfl rfl ?_
  refine m2 ?_
  refine rt_nil ?_
  refine tri_sr ?_
  refine s_loadR rfl rfl rfl rfl ty50 rfl rfl rfl ?_
  refine bnd2_elim h fun x7 x8 q9 h => ?_
  refine s_callN (kb := [(21, 109), (21, 110), (21, 111)]) (ns := []) (v := .tup [.agg (recV x7), .sc (.bool x8)]) rfl rfl cl77 (wi_AliasIn x4 x7 x8 q9) rfl (.cons (relAggL (.cons (.free rfl) (.cons (.free rfl) (.cons (.free rfl) (.cons (.free rfl) (.cons (.free rfl) (.cons (.free rfl) (.cons (.free rfl) (.cons (.free rfl) (.cons (.free rfl) (.cons (lendL rfl (.head _) rfl recV_free recV_len) (.cons (lendL rfl (.tail _ (.head _)) rfl recV_free recV_len) (.cons (lendL rfl (.tail _ (.tail _ (.head _))) rfl recV_free recV_len) .nil))))))))))))) .nil) trivial memNil .nil (fun _ _ => List.not_mem_nil) rfl trivial memNil rfl rfl rfl rfl rfl rfl ?_
  refine m1 ?_
  refine s_extract rfl rfl rfl rfl rfl rfl ?_
  refine s_extract rfl rfl rfl rfl rfl rfl ?_
  refine s_alloc rfl rfl rfl zc39 rfl rfl rfl rfl rfl ?_
  refine s_storeB rfl rfl rfl ty39 rfl rfl rfl rfl rfl ?_
  refine m2 ?_
  refine rt_nil ?_
  refine tri_sr ?_
  refine s_loadR rfl rfl rfl rfl ty50 rfl rfl rfl ?_
  refine bnd2_elim h fun x10 x11 q12 h => ?_
  refine s_callN (kb := [(21, 109), (21, 110), (21, 111)]) (ns := []) (v := .tup [.agg (recV x10), .sc (.bool x11)]) rfl rfl cl78 (ws_AliasIn x4 x10 x11 q12) rfl (.cons (relAggL (.cons (.free rfl) (.cons (.free rfl) (.cons (.free rfl) (.cons (.free rfl) (.cons (.free rfl) (.cons (.free rfl) (.cons (.free rfl) (.cons (.free rfl) (.cons (.free rfl) (.cons (lendL rfl (.head _) rfl recV_free recV_len) (.cons (lendL rfl (.tail _ (.head _)) rfl recV_free recV_len) (.cons (lendL rfl (.tail _ (.tail _ (.head _))) rfl recV_free recV_len) .nil))))))))))))) .nil) trivial memNil .nil (fun _ _ => List.not_mem_nil) rfl trivial memNil rfl rfl rfl rfl rfl rfl ?_
  refine m1 ?_
  refine s_extract rfl rfl rfl rfl rfl rfl ?_
  refine s_extract rfl rfl rfl rfl rfl rfl ?_
  refine s_alloc rfl rfl rfl zc39 rfl rfl rfl rfl rfl ?_
  refine s_storeB rfl rfl rfl ty39 rfl rfl rfl rfl rfl ?_
  refine m2 ?_
  refine rt_nil ?_
  refine tri_sr ?_
  refine s_loadR rfl rfl rfl rfl ty50 rfl rfl rfl ?_
  refine m1 ?_
  refine bnd2_elim h fun x13 x14 q15 h => ?_
  refine s_callN (kb := [(21, 109), (21, 110), (21, 111)]) (ns := []) (v := .tup [.sc (.string x13), .sc (.bool x14)]) rfl rfl cl28 (wi_DownIn x4 x5 x13 x14 q15) rfl (.cons (relAggL (.cons (.free rfl) (.cons (.free rfl) (.cons (.free rfl) (.cons (.free rfl) (.cons (.free rfl) (.cons (.free rfl) (.cons (.free rfl) (.cons (.free rfl) (.cons (.free rfl) (.cons (lendL rfl (.head _) rfl recV_free recV_len) (.cons (lendL rfl (.tail _ (.head _)) rfl recV_free recV_len) (.cons (lendL rfl (.tail _ (.tail _ (.head _))) rfl recV_free recV_len) .nil))))))))))))) (.cons (.free rfl) .nil)) trivial memNil .nil (fun _ _ => List.not_mem_nil) rfl trivial memNil rfl rfl rfl rfl rfl rfl ?_
  refine m1 ?_
  refine s_extract rfl rfl rfl rfl rfl rfl ?_
  refine s_extract rfl rfl rfl rfl rfl rfl ?_
  refine m2 ?_
  refine m2 ?_
  refine rt_nil ?_
  refine tri_sr ?_
  refine s_loadR rfl rfl rfl rfl ty50 rfl rfl rfl ?_
  refine m1 ?_
  refine bnd2_elim h fun x16 x17 q18 h => ?_
  refine s_callN (kb := [(21, 109), (21, 110), (21, 111)]) (ns := []) (v := .tup [.sc (.string x16), .sc (.bool x17)]) rfl rfl cl79 (ws_DownIn x4 x5 x16 x17 q18) rfl (.cons (relAggL (.cons (.free rfl) (.cons (.free rfl) (.cons (.free rfl) (.cons (.free rfl) (.cons (.free rfl) (.cons (.free rfl) (.cons (.free rfl) (.cons (.free rfl) (.cons (.free rfl) (.cons (lendL rfl (.head _) rfl recV_free recV_len) (.cons (lendL rfl (.tail _ (.head _)) rfl recV_free recV_len) (.cons (lendL rfl (.tail _ (.tail _ (.head _))) rfl recV_free recV_len) .nil))))))))))))) (.cons (.free rfl) .nil)) trivial memNil .nil (fun _ _ => List.not_mem_nil) rfl trivial memNil rfl rfl rfl rfl rfl rfl ?_
  refine m1 ?_
  refine s_extract rfl rfl rfl rfl rfl rfl ?_
  refine s_extract rfl rfl rfl rfl rfl rfl ?_
  refine m2 ?_
  refine m2 ?_
  refine rt_nil ?_
  refine tri_seq ?_
  refine tri_cutI (ι := { p : Bool // w_FnClassesBent_j0 x4 x5 p = some r0 }) (fun p => inv_w_FnClassesBent_0 x4 x5 p.1) ?_ ?_
  ·skip
   refine tri_draw mixed ?_
   refine s_loadR rfl rfl rfl rfl ty50 rfl rfl rfl ?_
   refine m1 ?_
   refine bnd1_elim h fun x19 q20 h => ?_
   refine s_callN (kb := [(21, 109), (21, 110), (21, 111)]) (ns := []) (v := .sc (.int .i64 x19)) rfl rfl cl26 (wi_ClassOf x4 x5 x19 q20) rfl (.cons (relAggL (.cons (.free rfl) (.cons (.free rfl) (.cons (.free rfl) (.cons (.free rfl) (.cons (.free rfl) (.cons (.free rfl) (.cons (.free rfl) (.cons (.free rfl) (.cons (.free rfl) (.cons (lendL rfl (.head _) rfl recV_free recV_len) (.cons (lendL rfl (.tail _ (.head _)) rfl recV_free recV_len) (.cons (lendL rfl (.tail _ (.tail _ (.head _))) rfl recV_free recV_len) .nil))))))))))))) (.cons (.free rfl) .nil)) trivial memNil .nil (fun _ _ => List.not_mem_nil) rfl trivial memNil rfl rfl rfl rfl rfl rfl ?_
   refine s_loadR rfl rfl rfl rfl ty50 rfl rfl rfl ?_
   refine m1 ?_
   refine bnd1_elim h fun x21 q22 h => ?_
   refine s_callN (kb := [(21, 109), (21, 110), (21, 111)]) (ns := []) (v := .sc (.int .i64 x21)) rfl rfl cl80 (ws_ClassOf x4 x5 x21 q22) rfl (.cons (relAggL (.cons (.free rfl) (.cons (.free rfl) (.cons (.free rfl) (.cons (.free rfl) (.cons (.free rfl) (.cons (.free rfl) (.cons (.free rfl) (.cons (.free rfl) (.cons (.free rfl) (.cons (lendL rfl (.head _) rfl recV_free recV_len) (.cons (lendL rfl (.tail _ (.head _)) rfl recV_free recV_len) (.cons (lendL rfl (.tail _ (.tail _ (.head _))) rfl recV_free recV_len) .nil))))))))))))) (.cons (.free rfl) .nil)) trivial memNil .nil (fun _ _ => List.not_mem_nil) rfl trivial memNil rfl rfl rfl rfl rfl rfl ?_
   refine s_of (st_neI rfl rfl rfl) rfl rfl rfl rfl ?_
   refine m1 ?_
   refine s_split (t := 53) rfl (fun b23 => ?_) (fun b23 => ?_)
   ·replace h := cond_t h b23
    refine s_skip rfl rfl rfl ?_
    refine s_skip rfl rfl rfl ?_
    refine s_skip rfl rfl rfl ?_
    refine s_pickT rfl rfl (v := .sc (.bool true)) rfl rfl rfl rfl ?_
    refine m1 ?_
    refine s_skip rfl rfl rfl ?_
    refine s_skip rfl rfl rfl ?_
    refine s_skip rfl rfl rfl ?_
    refine s_pickT rfl rfl (v := .sc (.bool true)) rfl rfl rfl rfl ?_
    refine m1 ?_
    refine s_skip rfl rfl rfl ?_
    refine s_skip rfl rfl rfl ?_
    refine s_skip rfl rfl rfl ?_
    refine s_pickT rfl rfl (v := .sc (.bool true)) rfl rfl rfl rfl ?_
    refine m1 ?_
    refine s_skip rfl rfl rfl ?_
    refine s_skip rfl rfl rfl ?_
    refine s_skip rfl rfl rfl ?_
    refine s_pickT rfl rfl (v := .sc (.bool true)) rfl rfl rfl rfl ?_
    refine m1 ?_
    refine s_skip rfl rfl rfl ?_
    refine s_skip rfl rfl rfl ?_
    refine s_skip rfl rfl rfl ?_
    refine s_skip rfl rfl rfl ?_
    refine s_skip rfl rfl rfl ?_
    refine s_skip rfl rfl rfl ?_
    refine s_pickT rfl rfl (v := .sc (.bool true)) rfl rfl rfl rfl ?_
    refine m1 ?_
    refine s_skip rfl rfl rfl ?_
    refine s_skip rfl rfl rfl ?_
    refine s_skip rfl rfl rfl ?_
    refine s_skip rfl rfl rfl ?_
    refine s_skip rfl rfl rfl ?_
    refine s_skip rfl rfl rfl ?_
    refine s_skip rfl rfl rfl ?_
    refine s_skip rfl rfl rfl ?_
    refine s_pickT rfl rfl (v := .sc (.bool true)) rfl rfl rfl rfl ?_
    refine m1 ?_
    refine s_skip rfl rfl rfl ?_
    refine s_skip rfl rfl rfl ?_
    refine s_skip rfl rfl rfl ?_
    refine s_skip rfl rfl rfl ?_
    refine s_skip rfl rfl rfl ?_
    refine s_skip rfl rfl rfl ?_
    refine s_skip rfl rfl rfl ?_
    refine s_skip rfl rfl rfl ?_
    refine s_pickT rfl rfl (v := .sc (.bool true)) rfl rfl rfl rfl ?_
    refine m1 ?_
    refine s_skip rfl rfl rfl ?_
    refine s_skip rfl rfl rfl ?_
    refine s_skip rfl rfl rfl ?_
    refine s_skip rfl rfl rfl ?_
    refine s_skip rfl rfl rfl ?_
    refine s_skip rfl rfl rfl ?_
    refine s_skip rfl rfl rfl ?_
    refine s_pickT rfl rfl (v := .sc (.bool true)) rfl rfl rfl rfl ?_
    refine rt_nil ⟨drawFast (by kernel_rfl), ?_⟩
    refine Exists.intro ⟨true, h⟩ ?_
    refine entX [((3, 0), ⟨50, 12, [[.sc (.int .i64 x4.id), .sc (.bool x4.reply), .sc (.bool x4.auth), .sc (.bool x4.cut), .sc (.bool x4.want), .sc (.bool x4.can), .sc (.int .i64 x4.code), .sc (.string x4.q.name), .sc (.int .i64 x4.q.ty), .ref (21, 109) 0 x4.an.length, .ref (21, 110) 0 x4.au.length, .ref (21, 111) 0 x4.ad.length]], false, true⟩, some (3, 0)), ((21, 109), ⟨39, 6, List.map recV x4.an, false, true⟩, some (21, 109)), ((21, 110), ⟨39, 6, List.map recV x4.au, false, true⟩, some (21, 110)), ((21, 111), ⟨39, 6, List.map recV x4.ad, false, true⟩, some (21, 111))] [] ⟨⟨rfl, _, rfl, rfl, rfl, rfl, id, rowsCv_one (.cons (.free rfl) (.cons (.free rfl) (.cons (.free rfl) (.cons (.free rfl) (.cons (.free rfl) (.cons (.free rfl) (.cons (.free rfl) (.cons (.free rfl) (.cons (.free rfl) (.cons (.ref rfl) (.cons (.ref rfl) (.cons (.ref rfl) .nil)))))))))))), rowsZ_one rfl⟩, ⟨rfl, _, rfl, rfl, rfl, rfl, id, rowsCv_eq rfl (allFree_map recV_free), rowsZ_map recV_len⟩, ⟨rfl, _, rfl, rfl, rfl, rfl, id, rowsCv_eq rfl (allFree_map recV_free), rowsZ_map recV_len⟩, ⟨rfl, _, rfl, rfl, rfl, rfl, id, rowsCv_eq rfl (allFree_map recV_free), rowsZ_map recV_len⟩, trivial⟩ trivial rfl rfl ?_
    exact ⟨(.ptr rfl), (.free rfl), (.free rfl), trivial⟩
   ·replace h := cond_f h b23
    refine s_loadR rfl rfl rfl rfl ty39 rfl rfl rfl ?_
    refine s_loadR rfl rfl rfl rfl ty39 rfl rfl rfl ?_
    refine s_neStruct (r' := (decide (x7.name = x10.name) && (decide (x7.ty = x10.ty) && (decide (x7.ttl = x10.ttl) && (decide (x7.n = x10.n) && (decide (x7.host = x10.host) && (decide (x7.text = x10.text) && true))))))) rfl rfl rfl fk39 rfl rfl rfl rfl rfl ?_
    refine s_pickF rfl rfl (by conv => lhs; whnf) rfl rfl rfl ?_
    refine m1 ?_
    refine s_split (t := 58) rfl (fun b24 => ?_) (fun b24 => ?_)
    ·replace h := cond_t h b24
     refine s_skip rfl rfl rfl ?_
     refine s_skip rfl rfl rfl ?_
     refine s_skip rfl rfl rfl ?_
     refine s_pickT rfl rfl (v := .sc (.bool true)) rfl rfl rfl rfl ?_
     refine m1 ?_
     refine s_skip rfl rfl rfl ?_
     refine s_skip rfl rfl rfl ?_
     refine s_skip rfl rfl rfl ?_
     refine s_pickT rfl rfl (v := .sc (.bool true)) rfl rfl rfl rfl ?_
     refine m1 ?_
     refine s_skip rfl rfl rfl ?_
     refine s_skip rfl rfl rfl ?_
     refine s_skip rfl rfl rfl ?_
     refine s_pickT rfl rfl (v := .sc (.bool true)) rfl rfl rfl rfl ?_
     refine m1 ?_
     refine s_skip rfl rfl rfl ?_
     refine s_skip rfl rfl rfl ?_
     refine s_skip rfl rfl rfl ?_
     refine s_skip rfl rfl rfl ?_
     refine s_skip rfl rfl rfl ?_
     refine s_skip rfl rfl rfl ?_
     refine s_pickT rfl rfl (v := .sc (.bool true)) rfl rfl rfl rfl ?_
     refine m1 ?_
     refine s_skip rfl rfl rfl ?_
     refine s_skip rfl rfl rfl ?_
     refine s_skip rfl rfl rfl ?_
     refine s_skip rfl rfl rfl ?_
     refine s_skip rfl rfl rfl ?_
     refine s_skip rfl rfl rfl ?_
     refine s_skip rfl rfl rfl ?_
     refine s_skip rfl rfl rfl ?_
     refine s_pickT rfl rfl (v := .sc (.bool true)) rfl rfl rfl rfl ?_
     refine m1 ?_
     refine s_skip rfl rfl rfl ?_
     refine s_skip rfl rfl rfl ?_
     refine s_skip rfl rfl rfl ?_
     refine s_skip rfl rfl rfl ?_
     refine s_skip rfl rfl rfl ?_
     refine s_skip rfl rfl rfl ?_
     refine s_skip rfl rfl rfl ?_
     refine s_skip rfl rfl rfl ?_
     refine s_pickT rfl rfl (v := .sc (.bool true)) rfl rfl rfl rfl ?_
     refine m1 ?_
     refine s_skip rfl rfl rfl ?_
     refine s_skip rfl rfl rfl ?_
     refine s_skip rfl rfl rfl ?_
     refine s_skip rfl rfl rfl ?_
     refine s_skip rfl rfl rfl ?_
     refine s_skip rfl rfl rfl ?_
     refine s_skip rfl rfl rfl ?_
     refine s_pickT rfl rfl (v := .sc (.bool true)) rfl rfl rfl rfl ?_
     refine rt_nil ⟨drawFast (by kernel_rfl), ?_⟩
     refine Exists.intro ⟨true, h⟩ ?_
     refine entX [((3, 0), ⟨50, 12, [[.sc (.int .i64 x4.id), .sc (.bool x4.reply), .sc (.bool x4.auth), .sc (.bool x4.cut), .sc (.bool x4.want), .sc (.bool x4.can), .sc (.int .i64 x4.code), .sc (.string x4.q.name), .sc (.int .i64 x4.q.ty), .ref (21, 109) 0 x4.an.length, .ref (21, 110) 0 x4.au.length, .ref (21, 111) 0 x4.ad.length]], false, true⟩, some (3, 0)), ((21, 109), ⟨39, 6, List.map recV x4.an, false, true⟩, some (21, 109)), ((21, 110), ⟨39, 6, List.map recV x4.au, false, true⟩, some (21, 110)), ((21, 111), ⟨39, 6, List.map recV x4.ad, false, true⟩, some (21, 111))] [] ⟨⟨rfl, _, rfl, rfl, rfl, rfl, id, rowsCv_one (.cons (.free rfl) (.cons (.free rfl) (.cons (.free rfl) (.cons (.free rfl) (.cons (.free rfl) (.cons (.free rfl) (.cons (.free rfl) (.cons (.free rfl) (.cons (.free rfl) (.cons (.ref rfl) (.cons (.ref rfl) (.cons (.ref rfl) .nil)))))))))))), rowsZ_one rfl⟩, ⟨rfl, _, rfl, rfl, rfl, rfl, id, rowsCv_eq rfl (allFree_map recV_free), rowsZ_map recV_len⟩, ⟨rfl, _, rfl, rfl, rfl, rfl, id, rowsCv_eq rfl (allFree_map recV_free), rowsZ_map recV_len⟩, ⟨rfl, _, rfl, rfl, rfl, rfl, id, rowsCv_eq rfl (allFree_map recV_free), rowsZ_map recV_len⟩, trivial⟩ trivial rfl rfl ?_
     exact ⟨(.ptr rfl), (.free rfl), (.free rfl), trivial⟩
    ·replace h := cond_f h b24
     refine m1 ?_
     refine m1 ?_
     refine s_of (st_neB isb4 rfl rfl rfl) rfl rfl rfl rfl ?_
     refine s_pickF rfl rfl (by conv => lhs; whnf) rfl rfl rfl ?_
     refine m1 ?_
     refine s_split (t := 63) rfl (fun b25 => ?_) (fun b25 => ?_)
     ·replace h := cond_t h b25
      refine s_skip rfl rfl rfl ?_
      refine s_skip rfl rfl rfl ?_
      refine s_skip rfl rfl rfl ?_
      refine s_pickT rfl rfl (v := .sc (.bool true)) rfl rfl rfl rfl ?_
      refine m1 ?_
      refine s_skip rfl rfl rfl ?_
      refine s_skip rfl rfl rfl ?_
      refine s_skip rfl rfl rfl ?_
      refine s_pickT rfl rfl (v := .sc (.bool true)) rfl rfl rfl rfl ?_
      refine m1 ?_
      refine s_skip rfl rfl rfl ?_
      refine s_skip rfl rfl rfl ?_
      refine s_skip rfl rfl rfl ?_
      refine s_skip rfl rfl rfl ?_
      refine s_skip rfl rfl rfl ?_
      refine s_skip rfl rfl rfl ?_
      refine s_pickT rfl rfl (v := .sc (.bool true)) rfl rfl rfl rfl ?_
      refine m1 ?_
      refine s_skip rfl rfl rfl ?_
      refine s_skip rfl rfl rfl ?_
      refine s_skip rfl rfl rfl ?_
      refine s_skip rfl rfl rfl ?_
      refine s_skip rfl rfl rfl ?_
      refine s_skip rfl rfl rfl ?_
      refine s_skip rfl rfl rfl ?_
      refine s_skip rfl rfl rfl ?_
      refine s_pickT rfl rfl (v := .sc (.bool true)) rfl rfl rfl rfl ?_
      refine m1 ?_
      refine s_skip rfl rfl rfl ?_
      refine s_skip rfl rfl rfl ?_
      refine s_skip rfl rfl rfl ?_
      refine s_skip rfl rfl rfl ?_
      refine s_skip rfl rfl rfl ?_
      refine s_skip rfl rfl rfl ?_
      refine s_skip rfl rfl rfl ?_
      refine s_skip rfl rfl rfl ?_
      refine s_pickT rfl rfl (v := .sc (.bool true)) rfl rfl rfl rfl ?_
      refine m1 ?_
      refine s_skip rfl rfl rfl ?_
      refine s_skip rfl rfl rfl ?_
      refine s_skip rfl rfl rfl ?_
      refine s_skip rfl rfl rfl ?_
      refine s_skip rfl rfl rfl ?_
      refine s_skip rfl rfl rfl ?_
      refine s_skip rfl rfl rfl ?_
      refine s_pickT rfl rfl (v := .sc (.bool true)) rfl rfl rfl rfl ?_
      refine rt_nil ⟨drawFast (by kernel_rfl), ?_⟩
      refine Exists.intro ⟨true, h⟩ ?_
      refine entX [((3, 0), ⟨50, 12, [[.sc (.int .i64 x4.id), .sc (.bool x4.reply), .sc (.bool x4.auth), .sc (.bool x4.cut), .sc (.bool x4.want), .sc (.bool x4.can), .sc (.int .i64 x4.code), .sc (.string x4.q.name), .sc (.int .i64 x4.q.ty), .ref (21, 109) 0 x4.an.length, .ref (21, 110) 0 x4.au.length, .ref (21, 111) 0 x4.ad.length]], false, true⟩, some (3, 0)), ((21, 109), ⟨39, 6, List.map recV x4.an, false, true⟩, some (21, 109)), ((21, 110), ⟨39, 6, List.map recV x4.au, false, true⟩, some (21, 110)), ((21, 111), ⟨39, 6, List.map recV x4.ad, false, true⟩, some (21, 111))] [] ⟨⟨rfl, _, rfl, rfl, rfl, rfl, id, rowsCv_one (.cons (.free rfl) (.cons (.free rfl) (.cons (.free rfl) (.cons (.free rfl) (.cons (.free rfl) (.cons (.free rfl) (.cons (.free rfl) (.cons (.free rfl) (.cons (.free rfl) (.cons (.ref rfl) (.cons (.ref rfl) (.cons (.ref rfl) .nil)))))))))))), rowsZ_one rfl⟩, ⟨rfl, _, rfl, rfl, rfl, rfl, id, rowsCv_eq rfl (allFree_map recV_free), rowsZ_map recV_len⟩, ⟨rfl, _, rfl, rfl, rfl, rfl, id, rowsCv_eq rfl (allFree_map recV_free), rowsZ_map recV_len⟩, ⟨rfl, _, rfl, rfl, rfl, rfl, id, rowsCv_eq rfl (allFree_map recV_free), rowsZ_map recV_len⟩, trivial⟩ trivial rfl rfl ?_
      exact ⟨(.ptr rfl), (.free rfl), (.free rfl), trivial⟩
     ·replace h := cond_f h b25
      refine m1 ?_
      refine m1 ?_
      refine s_of (st_neS rfl rfl rfl) rfl rfl rfl rfl ?_
      refine s_pickF rfl rfl (by conv => lhs; whnf) rfl rfl rfl ?_
      refine m1 ?_
      refine s_split (t := 68) rfl (fun b26 => ?_) (fun b26 => ?_)
      ·replace h := cond_t h b26
       refine s_skip rfl rfl rfl ?_
       refine s_skip rfl rfl rfl ?_
       refine s_skip rfl rfl rfl ?_
       refine s_pickT rfl rfl (v := .sc (.bool true)) rfl rfl rfl rfl ?_
       refine m1 ?_
       refine s_skip rfl rfl rfl ?_
       refine s_skip rfl rfl rfl ?_
       refine s_skip rfl rfl rfl ?_
       refine s_skip rfl rfl rfl ?_
       refine s_skip rfl rfl rfl ?_
       refine s_skip rfl rfl rfl ?_
       refine s_pickT rfl rfl (v := .sc (.bool true)) rfl rfl rfl rfl ?_
       refine m1 ?_
       refine s_skip rfl rfl rfl ?_
       refine s_skip rfl rfl rfl ?_
       refine s_skip rfl rfl rfl ?_
       refine s_skip rfl rfl rfl ?_
       refine s_skip rfl rfl rfl ?_
       refine s_skip rfl rfl rfl ?_
       refine s_skip rfl rfl rfl ?_
       refine s_skip rfl rfl rfl ?_
       refine s_pickT rfl rfl (v := .sc (.bool true)) rfl rfl rfl rfl ?_
       refine m1 ?_
       refine s_skip rfl rfl rfl ?_
       refine s_skip rfl rfl rfl ?_
       refine s_skip rfl rfl rfl ?_
       refine s_skip rfl rfl rfl ?_
       refine s_skip rfl rfl rfl ?_
       refine s_skip rfl rfl rfl ?_
       refine s_skip rfl rfl rfl ?_
       refine s_skip rfl rfl rfl ?_
       refine s_pickT rfl rfl (v := .sc (.bool true)) rfl rfl rfl rfl ?_
       refine m1 ?_
       refine s_skip rfl rfl rfl ?_
       refine s_skip rfl rfl rfl ?_
       refine s_skip rfl rfl rfl ?_
       refine s_skip rfl rfl rfl ?_
       refine s_skip rfl rfl rfl ?_
       refine s_skip rfl rfl rfl ?_
       refine s_skip rfl rfl rfl ?_
       refine s_pickT rfl rfl (v := .sc (.bool true)) rfl rfl rfl rfl ?_
       refine rt_nil ⟨drawFast (by kernel_rfl), ?_⟩
       refine Exists.intro ⟨true, h⟩ ?_
       refine entX [((3, 0), ⟨50, 12, [[.sc (.int .i64 x4.id), .sc (.bool x4.reply), .sc (.bool x4.auth), .sc (.bool x4.cut), .sc (.bool x4.want), .sc (.bool x4.can), .sc (.int .i64 x4.code), .sc (.string x4.q.name), .sc (.int .i64 x4.q.ty), .ref (21, 109) 0 x4.an.length, .ref (21, 110) 0 x4.au.length, .ref (21, 111) 0 x4.ad.length]], false, true⟩, some (3, 0)), ((21, 109), ⟨39, 6, List.map recV x4.an, false, true⟩, some (21, 109)), ((21, 110), ⟨39, 6, List.map recV x4.au, false, true⟩, some (21, 110)), ((21, 111), ⟨39, 6, List.map recV x4.ad, false, true⟩, some (21, 111))] [] ⟨⟨rfl, _, rfl, rfl, rfl, rfl, id, rowsCv_one (.cons (.free rfl) (.cons (.free rfl) (.cons (.free rfl) (.cons (.free rfl) (.cons (.free rfl) (.cons (.free rfl) (.cons (.free rfl) (.cons (.free rfl) (.cons (.free rfl) (.cons (.ref rfl) (.cons (.ref rfl) (.cons (.ref rfl) .nil)))))))))))), rowsZ_one rfl⟩, ⟨rfl, _, rfl, rfl, rfl, rfl, id, rowsCv_eq rfl (allFree_map recV_free), rowsZ_map recV_len⟩, ⟨rfl, _, rfl, rfl, rfl, rfl, id, rowsCv_eq rfl (allFree_map recV_free), rowsZ_map recV_len⟩, ⟨rfl, _, rfl, rfl, rfl, rfl, id, rowsCv_eq rfl (allFree_map recV_free), rowsZ_map recV_len⟩, trivial⟩ trivial rfl rfl ?_
       exact ⟨(.ptr rfl), (.free rfl), (.free rfl), trivial⟩
      ·replace h := cond_f h b26
       refine m1 ?_
       refine m1 ?_
       refine s_of (st_neB isb4 rfl rfl rfl) rfl rfl rfl rfl ?_
       refine s_pickF rfl rfl (by conv => lhs; whnf) rfl rfl rfl ?_
       refine m1 ?_
       refine s_split (t := 73) rfl (fun b27 => ?_) (fun b27 => ?_)
       ·replace h := cond_t h b27
        refine s_skip rfl rfl rfl ?_
        refine s_skip rfl rfl rfl ?_
        refine s_skip rfl rfl rfl ?_
        refine s_skip rfl rfl rfl ?_
        refine s_skip rfl rfl rfl ?_
        refine s_skip rfl rfl rfl ?_
        refine s_pickT rfl rfl (v := .sc (.bool true)) rfl rfl rfl rfl ?_
        refine m1 ?_
        refine s_skip rfl rfl rfl ?_
        refine s_skip rfl rfl rfl ?_
        refine s_skip rfl rfl rfl ?_
        refine s_skip rfl rfl rfl ?_
        refine s_skip rfl rfl rfl ?_
        refine s_skip rfl rfl rfl ?_
        refine s_skip rfl rfl rfl ?_
        refine s_skip rfl rfl rfl ?_
        refine s_pickT rfl rfl (v := .sc (.bool true)) rfl rfl rfl rfl ?_
        refine m1 ?_
        refine s_skip rfl rfl rfl ?_
        refine s_skip rfl rfl rfl ?_
        refine s_skip rfl rfl rfl ?_
        refine s_skip rfl rfl rfl ?_
        refine s_skip rfl rfl rfl ?_
        refine s_skip rfl rfl rfl ?_
        refine s_skip rfl rfl rfl ?_
        refine s_skip rfl rfl rfl ?_
        refine s_pickT rfl rfl (v := .sc (.bool true)) rfl rfl rfl rfl ?_
        refine m1 ?_
        refine s_skip rfl rfl rfl ?_
        refine s_skip rfl rfl rfl ?_
        refine s_skip rfl rfl rfl ?_
        refine s_skip rfl rfl rfl ?_
        refine s_skip rfl rfl rfl ?_
        refine s_skip rfl rfl rfl ?_
        refine s_skip rfl rfl rfl ?_
        refine s_pickT rfl rfl (v := .sc (.bool true)) rfl rfl rfl rfl ?_
        refine rt_nil ⟨drawFast (by kernel_rfl), ?_⟩
        refine Exists.intro ⟨true, h⟩ ?_
        refine entX [((3, 0), ⟨50, 12, [[.sc (.int .i64 x4.id), .sc (.bool x4.reply), .sc (.bool x4.auth), .sc (.bool x4.cut), .sc (.bool x4.want), .sc (.bool x4.can), .sc (.int .i64 x4.code), .sc (.string x4.q.name), .sc (.int .i64 x4.q.ty), .ref (21, 109) 0 x4.an.length, .ref (21, 110) 0 x4.au.length, .ref (21, 111) 0 x4.ad.length]], false, true⟩, some (3, 0)), ((21, 109), ⟨39, 6, List.map recV x4.an, false, true⟩, some (21, 109)), ((21, 110), ⟨39, 6, List.map recV x4.au, false, true⟩, some (21, 110)), ((21, 111), ⟨39, 6, List.map recV x4.ad, false, true⟩, some (21, 111))] [] ⟨⟨rfl, _, rfl, rfl, rfl, rfl, id, rowsCv_one (.cons (.free rfl) (.cons (.free rfl) (.cons (.free rfl) (.cons (.free rfl) (.cons (.free rfl) (.cons (.free rfl) (.cons (.free rfl) (.cons (.free rfl) (.cons (.free rfl) (.cons (.ref rfl) (.cons (.ref rfl) (.cons (.ref rfl) .nil)))))))))))), rowsZ_one rfl⟩, ⟨rfl, _, rfl, rfl, rfl, rfl, id, rowsCv_eq rfl (allFree_map recV_free), rowsZ_map recV_len⟩, ⟨rfl, _, rfl, rfl, rfl, rfl, id, rowsCv_eq rfl (allFree_map recV_free), rowsZ_map recV_len⟩, ⟨rfl, _, rfl, rfl, rfl, rfl, id, rowsCv_eq rfl (allFree_map recV_free), rowsZ_map recV_len⟩, trivial⟩ trivial rfl rfl ?_
        exact ⟨(.ptr rfl), (.free rfl), (.free rfl), trivial⟩
       ·replace h := cond_f h b27
        refine s_loadR rfl rfl rfl rfl ty50 rfl rfl rfl ?_
        refine bnd1_elim h fun x28 q29 h => ?_
        refine s_callN (kb := [(21, 109), (21, 110), (21, 111)]) (ns := []) (v := .ref (75, 0) 0 x28.length) rfl rfl cl81 (wi_SetIn x4 x28 q29) rfl (.cons (relAggL (.cons (.free rfl) (.cons (.free rfl) (.cons (.free rfl) (.cons (.free rfl) (.cons (.free rfl) (.cons (.free rfl) (.cons (.free rfl) (.cons (.free rfl) (.cons (.free rfl) (.cons (lendL rfl (.head _) rfl recV_free recV_len) (.cons (lendL rfl (.tail _ (.head _)) rfl recV_free recV_len) (.cons (lendL rfl (.tail _ (.tail _ (.head _))) rfl recV_free recV_len) .nil))))))))))))) .nil) trivial memNil .nil (fun _ _ => List.not_mem_nil) rfl ⟨(allSc_map recV_sc), trivial⟩ memNil rfl (by simp only [V.mat, V.mat1, V.mat0, matL, matT, List.length_map] <;> rfl) rfl rfl rfl rfl ?_
        refine s_loadR rfl rfl rfl rfl ty50 rfl rfl rfl ?_
        refine bnd1_elim h fun x30 q31 h => ?_
        refine s_callN (kb := [(21, 109), (21, 110), (21, 111)]) (ns := []) (v := .ref (77, 0) 0 x30.length) rfl rfl cl82 (ws_SetIn x4 x30 q31) rfl (.cons (relAggL (.cons (.free rfl) (.cons (.free rfl) (.cons (.free rfl) (.cons (.free rfl) (.cons (.free rfl) (.cons (.free rfl) (.cons (.free rfl) (.cons (.free rfl) (.cons (.free rfl) (.cons (lendL rfl (.head _) rfl recV_free recV_len) (.cons (lendL rfl (.tail _ (.head _)) rfl recV_free recV_len) (.cons (lendL rfl (.tail _ (.tail _ (.head _))) rfl recV_free recV_len) .nil))))))))))))) .nil) trivial memNil .nil (fun _ _ => List.not_mem_nil) rfl ⟨(allSc_map recV_sc), trivial⟩ memNil rfl (by simp only [V.mat, V.mat1, V.mat0, matL, matT, List.length_map] <;> rfl) rfl rfl rfl rfl ?_
        refine bnd1_elim h fun x32 q33 h => ?_
        refine s_callN (kb := [(75, 0), (77, 0)]) (ns := []) (v := .sc (.bool x32)) rfl rfl cl56 (ww_sameRecs x28 x30 x32 q33) rfl (.cons (lendL rfl (.head _) rfl recV_free recV_len) (.cons (lendL rfl (.tail _ (.head _)) rfl recV_free recV_len) .nil)) trivial memNil .nil (fun _ _ => List.not_mem_nil) rfl trivial memNil rfl rfl rfl rfl rfl rfl ?_
        refine s_of (st_not rfl rfl) rfl rfl rfl rfl ?_
        refine s_pickF rfl rfl (by conv => lhs; whnf) rfl rfl rfl ?_
        refine m1 ?_
        refine s_split (t := 81) rfl (fun b34 => ?_) (fun b34 => ?_)
        ·replace h := cond_t h b34
         refine s_skip rfl rfl rfl ?_
         refine s_skip rfl rfl rfl ?_
         refine s_skip rfl rfl rfl ?_
         refine s_skip rfl rfl rfl ?_
         refine s_skip rfl rfl rfl ?_
         refine s_skip rfl rfl rfl ?_
         refine s_skip rfl rfl rfl ?_
         refine s_skip rfl rfl rfl ?_
         refine s_pickT rfl rfl (v := .sc (.bool true)) rfl rfl rfl rfl ?_
         refine m1 ?_
         refine s_skip rfl rfl rfl ?_
         refine s_skip rfl rfl rfl ?_
         refine s_skip rfl rfl rfl ?_
         refine s_skip rfl rfl rfl ?_
         refine s_skip rfl rfl rfl ?_
         refine s_skip rfl rfl rfl ?_
         refine s_skip rfl rfl rfl ?_
         refine s_skip rfl rfl rfl ?_
         refine s_pickT rfl rfl (v := .sc (.bool true)) rfl rfl rfl rfl ?_
         refine m1 ?_
         refine s_skip rfl rfl rfl ?_
         refine s_skip rfl rfl rfl ?_
         refine s_skip rfl rfl rfl ?_
         refine s_skip rfl rfl rfl ?_
         refine s_skip rfl rfl rfl ?_
         refine s_skip rfl rfl rfl ?_
         refine s_skip rfl rfl rfl ?_
         refine s_pickT rfl rfl (v := .sc (.bool true)) rfl rfl rfl rfl ?_
         refine rt_nil ⟨drawFast (by kernel_rfl), ?_⟩
         refine Exists.intro ⟨true, h⟩ ?_
         refine entX [((3, 0), ⟨50, 12, [[.sc (.int .i64 x4.id), .sc (.bool x4.reply), .sc (.bool x4.auth), .sc (.bool x4.cut), .sc (.bool x4.want), .sc (.bool x4.can), .sc (.int .i64 x4.code), .sc (.string x4.q.name), .sc (.int .i64 x4.q.ty), .ref (21, 109) 0 x4.an.length, .ref (21, 110) 0 x4.au.length, .ref (21, 111) 0 x4.ad.length]], false, true⟩, some (3, 0)), ((21, 109), ⟨39, 6, List.map recV x4.an, false, true⟩, some (21, 109)), ((21, 110), ⟨39, 6, List.map recV x4.au, false, true⟩, some (21, 110)), ((21, 111), ⟨39, 6, List.map recV x4.ad, false, true⟩, some (21, 111))] [] ⟨⟨rfl, _, rfl, rfl, rfl, rfl, id, rowsCv_one (.cons (.free rfl) (.cons (.free rfl) (.cons (.free rfl) (.cons (.free rfl) (.cons (.free rfl) (.cons (.free rfl) (.cons (.free rfl) (.cons (.free rfl) (.cons (.free rfl) (.cons (.ref rfl) (.cons (.ref rfl) (.cons (.ref rfl) .nil)))))))))))), rowsZ_one rfl⟩, ⟨rfl, _, rfl, rfl, rfl, rfl, id, rowsCv_eq rfl (allFree_map recV_free), rowsZ_map recV_len⟩, ⟨rfl, _, rfl, rfl, rfl, rfl, id, rowsCv_eq rfl (allFree_map recV_free), rowsZ_map recV_len⟩, ⟨rfl, _, rfl, rfl, rfl, rfl, id, rowsCv_eq rfl (allFree_map recV_free), rowsZ_map recV_len⟩, trivial⟩ trivial rfl rfl ?_
         exact ⟨(.ptr rfl), (.free rfl), (.free rfl), trivial⟩
        ·replace h := cond_f h b34
         refine s_loadR rfl rfl rfl rfl ty50 rfl rfl rfl ?_
         refine m1 ?_
         refine bnd1_elim h fun x35 q36 h => ?_
         refine s_callN (kb := [(21, 109), (21, 110), (21, 111)]) (ns := []) (v := .ref (84, 0) 0 x35.length) rfl rfl cl29 (wi_ServersIn x4 x5 x35 q36) rfl (.cons (relAggL (.cons (.free rfl) (.cons (.free rfl) (.cons (.free rfl) (.cons (.free rfl) (.cons (.free rfl) (.cons (.free rfl) (.cons (.free rfl) (.cons (.free rfl) (.cons (.free rfl) (.cons (lendL rfl (.head _) rfl recV_free recV_len) (.cons (lendL rfl (.tail _ (.head _)) rfl recV_free recV_len) (.cons (lendL rfl (.tail _ (.tail _ (.head _))) rfl recV_free recV_len) .nil))))))))))))) (.cons (.free rfl) .nil)) trivial memNil .nil (fun _ _ => List.not_mem_nil) rfl ⟨(allSc_map recV_sc), trivial⟩ memNil rfl (by simp only [V.mat, V.mat1, V.mat0, matL, matT, List.length_map] <;> rfl) rfl rfl rfl rfl ?_
         refine s_loadR rfl rfl rfl rfl ty50 rfl rfl rfl ?_
         refine m1 ?_
         refine bnd1_elim h fun x37 q38 h => ?_
         refine s_callN (kb := [(21, 109), (21, 110), (21, 111)]) (ns := []) (v := .ref (87, 0) 0 x37.length) rfl rfl cl83 (ws_ServersIn x4 x5 x37 q38) rfl (.cons (relAggL (.cons (.free rfl) (.cons (.free rfl) (.cons (.free rfl) (.cons (.free rfl) (.cons (.free rfl) (.cons (.free rfl) (.cons (.free rfl) (.cons (.free rfl) (.cons (.free rfl) (.cons (lendL rfl (.head _) rfl recV_free recV_len) (.cons (lendL rfl (.tail _ (.head _)) rfl recV_free recV_len) (.cons (lendL rfl (.tail _ (.tail _ (.head _))) rfl recV_free recV_len) .nil))))))))))))) (.cons (.free rfl) .nil)) trivial memNil .nil (fun _ _ => List.not_mem_nil) rfl ⟨(allSc_map recV_sc), trivial⟩ memNil rfl (by simp only [V.mat, V.mat1, V.mat0, matL, matT, List.length_map] <;> rfl) rfl rfl rfl rfl ?_
         refine bnd1_elim h fun x39 q40 h => ?_
         refine s_callN (kb := [(84, 0), (87, 0)]) (ns := []) (v := .sc (.bool x39)) rfl rfl cl56 (ww_sameRecs x35 x37 x39 q40) rfl (.cons (lendL rfl (.head _) rfl recV_free recV_len) (.cons (lendL rfl (.tail _ (.head _)) rfl recV_free recV_len) .nil)) trivial memNil .nil (fun _ _ => List.not_mem_nil) rfl trivial memNil rfl rfl rfl rfl rfl rfl ?_
         refine s_of (st_not rfl rfl) rfl rfl rfl rfl ?_
         refine s_pickF rfl rfl (by conv => lhs; whnf) rfl rfl rfl ?_
         refine m1 ?_
         refine s_split (t := 91) rfl (fun b41 => ?_) (fun b41 => ?_)
         ·replace h := cond_t h b41
          refine s_skip rfl rfl rfl ?_
          refine s_skip rfl rfl rfl ?_
          refine s_skip rfl rfl rfl ?_
          refine s_skip rfl rfl rfl ?_
          refine s_skip rfl rfl rfl ?_
          refine s_skip rfl rfl rfl ?_
          refine s_skip rfl rfl rfl ?_
          refine s_skip rfl rfl rfl ?_
          refine s_pickT rfl rfl (v := .sc (.bool true)) rfl rfl rfl rfl ?_
          refine m1 ?_
          refine s_skip rfl rfl rfl ?_
          refine s_skip rfl rfl rfl ?_
          refine s_skip rfl rfl rfl ?_
          refine s_skip rfl rfl rfl ?_
          refine s_skip rfl rfl rfl ?_
          refine s_skip rfl rfl rfl ?_
          refine s_skip rfl rfl rfl ?_
          refine s_pickT rfl rfl (v := .sc (.bool true)) rfl rfl rfl rfl ?_
          refine rt_nil ⟨drawFast (by kernel_rfl), ?_⟩
          refine Exists.intro ⟨true, h⟩ ?_
          refine entX [((3, 0), ⟨50, 12, [[.sc (.int .i64 x4.id), .sc (.bool x4.reply), .sc (.bool x4.auth), .sc (.bool x4.cut), .sc (.bool x4.want), .sc (.bool x4.can), .sc (.int .i64 x4.code), .sc (.string x4.q.name), .sc (.int .i64 x4.q.ty), .ref (21, 109) 0 x4.an.length, .ref (21, 110) 0 x4.au.length, .ref (21, 111) 0 x4.ad.length]], false, true⟩, some (3, 0)), ((21, 109), ⟨39, 6, List.map recV x4.an, false, true⟩, some (21, 109)), ((21, 110), ⟨39, 6, List.map recV x4.au, false, true⟩, some (21, 110)), ((21, 111), ⟨39, 6, List.map recV x4.ad, false, true⟩, some (21, 111))] [] ⟨⟨rfl, _, rfl, rfl, rfl, rfl, id, rowsCv_one (.cons (.free rfl) (.cons (.free rfl) (.cons (.free rfl) (.cons (.free rfl) (.cons (.free rfl) (.cons (.free rfl) (.cons (.free rfl) (.cons (.free rfl) (.cons (.free rfl) (.cons (.ref rfl) (.cons (.ref rfl) (.cons (.ref rfl) .nil)))))))))))), rowsZ_one rfl⟩, ⟨rfl, _, rfl, rfl, rfl, rfl, id, rowsCv_eq rfl (allFree_map recV_free), rowsZ_map recV_len⟩, ⟨rfl, _, rfl, rfl, rfl, rfl, id, rowsCv_eq rfl (allFree_map recV_free), rowsZ_map recV_len⟩, ⟨rfl, _, rfl, rfl, rfl, rfl, id, rowsCv_eq rfl (allFree_map recV_free), rowsZ_map recV_len⟩, trivial⟩ trivial rfl rfl ?_
          exact ⟨(.ptr rfl), (.free rfl), (.free rfl), trivial⟩
         ·replace h := cond_f h b41
          refine s_loadR rfl rfl rfl rfl ty50 rfl rfl rfl ?_
          refine m1 ?_
          refine bnd1_elim h fun x42 q43 h => ?_
          refine s_callN (kb := [(21, 109), (21, 110), (21, 111)]) (ns := []) (v := .ref (94, 0) 0 x42.length) rfl rfl cl84 (wi_HelpersIn x4 x5 x42 q43) rfl (.cons (relAggL (.cons (.free rfl) (.cons (.free rfl) (.cons (.free rfl) (.cons (.free rfl) (.cons (.free rfl) (.cons (.free rfl) (.cons (.free rfl) (.cons (.free rfl) (.cons (.free rfl) (.cons (lendL rfl (.head _) rfl recV_free recV_len) (.cons (lendL rfl (.tail _ (.head _)) rfl recV_free recV_len) (.cons (lendL rfl (.tail _ (.tail _ (.head _))) rfl recV_free recV_len) .nil))))))))))))) (.cons (.free rfl) .nil)) trivial memNil .nil (fun _ _ => List.not_mem_nil) rfl ⟨(allSc_map recV_sc), trivial⟩ memNil rfl (by simp only [V.mat, V.mat1, V.mat0, matL, matT, List.length_map] <;> rfl) rfl rfl rfl rfl ?_
          refine s_loadR rfl rfl rfl rfl ty50 rfl rfl rfl ?_
          refine m1 ?_
          refine bnd1_elim h fun x44 q45 h => ?_
          refine s_callN (kb := [(21, 109), (21, 110), (21, 111)]) (ns := []) (v := .ref (97, 0) 0 x44.length) rfl rfl cl85 (ws_HelpersIn x4 x5 x44 q45) rfl (.cons (relAggL (.cons (.free rfl) (.cons (.free rfl) (.cons (.free rfl) (.cons (.free rfl) (.cons (.free rfl) (.cons (.free rfl) (.cons (.free rfl) (.cons (.free rfl) (.cons (.free rfl) (.cons (lendL rfl (.head _) rfl recV_free recV_len) (.cons (lendL rfl (.tail _ (.head _)) rfl recV_free recV_len) (.cons (lendL rfl (.tail _ (.tail _ (.head _))) rfl recV_free recV_len) .nil))))))))))))) (.cons (.free rfl) .nil)) trivial memNil .nil (fun _ _ => List.not_mem_nil) rfl ⟨(allSc_map recV_sc), trivial⟩ memNil rfl (by simp only [V.mat, V.mat1, V.mat0, matL, matT, List.length_map] <;> rfl) rfl rfl rfl rfl ?_
          refine bnd1_elim h fun x46 q47 h => ?_
          refine s_callN (kb := [(94, 0), (97, 0)]) (ns := []) (v := .sc (.bool x46)) rfl rfl cl56 (ww_sameRecs x42 x44 x46 q47) rfl (.cons (lendL rfl (.head _) rfl recV_free recV_len) (.cons (lendL rfl (.tail _ (.head _)) rfl recV_free recV_len) .nil)) trivial memNil .nil (fun _ _ => List.not_mem_nil) rfl trivial memNil rfl rfl rfl rfl rfl rfl ?_
          refine s_of (st_not rfl rfl) rfl rfl rfl rfl ?_
          refine s_pickF rfl rfl (by conv => lhs; whnf) rfl rfl rfl ?_
          refine m1 ?_
          refine s_split (t := 101) rfl (fun b48 => ?_) (fun b48 => ?_)
          ·replace h := cond_t h b48
           refine s_skip rfl rfl rfl ?_
           refine s_skip rfl rfl rfl ?_
           refine s_skip rfl rfl rfl ?_
           refine s_skip rfl rfl rfl ?_
           refine s_skip rfl rfl rfl ?_
           refine s_skip rfl rfl rfl ?_
           refine s_skip rfl rfl rfl ?_
           refine s_pickT rfl rfl (v := .sc (.bool true)) rfl rfl rfl rfl ?_
           refine rt_nil ⟨drawFast (by kernel_rfl), ?_⟩
           refine Exists.intro ⟨true, h⟩ ?_
           refine entX [((3, 0), ⟨50, 12, [[.sc (.int .i64 x4.id), .sc (.bool x4.reply), .sc (.bool x4.auth), .sc (.bool x4.cut), .sc (.bool x4.want), .sc (.bool x4.can), .sc (.int .i64 x4.code), .sc (.string x4.q.name), .sc (.int .i64 x4.q.ty), .ref (21, 109) 0 x4.an.length, .ref (21, 110) 0 x4.au.length, .ref (21, 111) 0 x4.ad.length]], false, true⟩, some (3, 0)), ((21, 109), ⟨39, 6, List.map recV x4.an, false, true⟩, some (21, 109)), ((21, 110), ⟨39, 6, List.map recV x4.au, false, true⟩, some (21, 110)), ((21, 111), ⟨39, 6, List.map recV x4.ad, false, true⟩, some (21, 111))] [] ⟨⟨rfl, _, rfl, rfl, rfl, rfl, id, rowsCv_one (.cons (.free rfl) (.cons (.free rfl) (.cons (.free rfl) (.cons (.free rfl) (.cons (.free rfl) (.cons (.free rfl) (.cons (.free rfl) (.cons (.free rfl) (.cons (.free rfl) (.cons (.ref rfl) (.cons (.ref rfl) (.cons (.ref rfl) .nil)))))))))))), rowsZ_one rfl⟩, ⟨rfl, _, rfl, rfl, rfl, rfl, id, rowsCv_eq rfl (allFree_map recV_free), rowsZ_map recV_len⟩, ⟨rfl, _, rfl, rfl, rfl, rfl, id, rowsCv_eq rfl (allFree_map recV_free), rowsZ_map recV_len⟩, ⟨rfl, _, rfl, rfl, rfl, rfl, id, rowsCv_eq rfl (allFree_map recV_free), rowsZ_map recV_len⟩, trivial⟩ trivial rfl rfl ?_
           exact ⟨(.ptr rfl), (.free rfl), (.free rfl), trivial⟩
          ·replace h := cond_f h b48
           refine s_loadR rfl rfl rfl rfl ty50 rfl rfl rfl ?_
           refine m1 ?_
           refine bnd1_elim h fun x49 q50 h => ?_
           refine s_callN (kb := [(21, 109), (21, 110), (21, 111)]) (ns := []) (v := .sc (.int .i64 x49)) rfl rfl cl86 (wi_NothingFor x4 x5 x49 q50) rfl (.cons (relAggL (.cons (.free rfl) (.cons (.free rfl) (.cons (.free rfl) (.cons (.free rfl) (.cons (.free rfl) (.cons (.free rfl) (.cons (.free rfl) (.cons (.free rfl) (.cons (.free rfl) (.cons (lendL rfl (.head _) rfl recV_free recV_len) (.cons (lendL rfl (.tail _ (.head _)) rfl recV_free recV_len) (.cons (lendL rfl (.tail _ (.tail _ (.head _))) rfl recV_free recV_len) .nil))))))))))))) (.cons (.free rfl) .nil)) trivial memNil .nil (fun _ _ => List.not_mem_nil) rfl trivial memNil rfl rfl rfl rfl rfl rfl ?_
           refine s_loadR rfl rfl rfl rfl ty50 rfl rfl rfl ?_
           refine m1 ?_
           refine bnd1_elim h fun x51 q52 h => ?_
           refine s_callN (kb := [(21, 109), (21, 110), (21, 111)]) (ns := []) (v := .sc (.int .i64 x51)) rfl rfl cl87 (ws_NothingFor x4 x5 x51 q52) rfl (.cons (relAggL (.cons (.free rfl) (.cons (.free rfl) (.cons (.free rfl) (.cons (.free rfl) (.cons (.free rfl) (.cons (.free rfl) (.cons (.free rfl) (.cons (.free rfl) (.cons (.free rfl) (.cons (lendL rfl (.head _) rfl recV_free recV_len) (.cons (lendL rfl (.tail _ (.head _)) rfl recV_free recV_len) (.cons (lendL rfl (.tail _ (.tail _ (.head _))) rfl recV_free recV_len) .nil))))))))))))) (.cons (.free rfl) .nil)) trivial memNil .nil (fun _ _ => List.not_mem_nil) rfl trivial memNil rfl rfl rfl rfl rfl rfl ?_
           refine s_of (st_neI rfl rfl rfl) rfl rfl rfl rfl ?_
           refine s_pickF rfl rfl (by conv => lhs; whnf) rfl rfl rfl ?_
           refine rt_nil ⟨drawFast (by kernel_rfl), ?_⟩
           refine Exists.intro ⟨!decide (x49 = x51), h⟩ ?_
           refine entX [((3, 0), ⟨50, 12, [[.sc (.int .i64 x4.id), .sc (.bool x4.reply), .sc (.bool x4.auth), .sc (.bool x4.cut), .sc (.bool x4.want), .sc (.bool x4.can), .sc (.int .i64 x4.code), .sc (.string x4.q.name), .sc (.int .i64 x4.q.ty), .ref (21, 109) 0 x4.an.length, .ref (21, 110) 0 x4.au.length, .ref (21, 111) 0 x4.ad.length]], false, true⟩, some (3, 0)), ((21, 109), ⟨39, 6, List.map recV x4.an, false, true⟩, some (21, 109)), ((21, 110), ⟨39, 6, List.map recV x4.au, false, true⟩, some (21, 110)), ((21, 111), ⟨39, 6, List.map recV x4.ad, false, true⟩, some (21, 111))] [] ⟨⟨rfl, _, rfl, rfl, rfl, rfl, id, rowsCv_one (.cons (.free rfl) (.cons (.free rfl) (.cons (.free rfl) (.cons (.free rfl) (.cons (.free rfl) (.cons (.free rfl) (.cons (.free rfl) (.cons (.free rfl) (.cons (.free rfl) (.cons (.ref rfl) (.cons (.ref rfl) (.cons (.ref rfl) .nil)))))))))))), rowsZ_one rfl⟩, ⟨rfl, _, rfl, rfl, rfl, rfl, id, rowsCv_eq rfl (allFree_map recV_free), rowsZ_map recV_len⟩, ⟨rfl, _, rfl, rfl, rfl, rfl, id, rowsCv_eq rfl (allFree_map recV_free), rowsZ_map recV_len⟩, ⟨rfl, _, rfl, rfl, rfl, rfl, id, rowsCv_eq rfl (allFree_map recV_free), rowsZ_map recV_len⟩, trivial⟩ trivial rfl rfl ?_
           exact ⟨(.ptr rfl), (.free rfl), (.free rfl), trivial⟩
  ·rintro ⟨j0_0, h⟩
   replace h : w_FnClassesBent_j0 x4 x5 j0_0 = some r0 := h
   unfold w_FnClassesBent_j0 at h
   show Tri _ _ _ (inv_w_FnClassesBent_0 x4 x5 j0_0)
   refine tri_cond rfl (fun c19 => ?_) (fun c19 => ?_)
   ·replace h := cond_t h c19
    refine tri_sr ?_
    refine s_mv (.inr rfl) (v := .sc (.bool false)) rfl rfl rfl rfl ?_
    refine rt_nil ?_
    refine tri_ret ?_
    have e0 := (some1 h); subst e0
    exact endY [] [] (rvC (resTmp rfl) rvN) trivial trivial rfl rfl rfl rfl (.free rfl)
   ·replace h := cond_f h c19
    refine tri_skip ?_
    refine tri_sr ?_
    refine s_loadR rfl rfl rfl rfl ty50 rfl rfl rfl ?_
    refine m1 ?_
    refine bnd1_elim h fun x20 q21 h => ?_
    refine s_callN (kb := [(21, 109), (21, 110), (21, 111)]) (ns := []) (v := .ref (112, 0) 0 x20.length) rfl rfl cl84 (wi_HelpersIn x4 x5 x20 q21) rfl (.cons (relAggL (.cons (.free rfl) (.cons (.free rfl) (.cons (.free rfl) (.cons (.free rfl) (.cons (.free rfl) (.cons (.free rfl) (.cons (.free rfl) (.cons (.free rfl) (.cons (.free rfl) (.cons (lendL rfl (.head _) rfl recV_free recV_len) (.cons (lendL rfl (.tail _ (.head _)) rfl recV_free recV_len) (.cons (lendL rfl (.tail _ (.tail _ (.head _))) rfl recV_free recV_len) .nil))))))))))))) (.cons (.free rfl) .nil)) trivial memNil .nil (fun _ _ => List.not_mem_nil) rfl ⟨(allSc_map recV_sc), trivial⟩ memNil rfl (by simp only [V.mat, V.mat1, V.mat0, matL, matT, List.length_map] <;> rfl) rfl rfl rfl rfl ?_
    refine m2 ?_
    refine rt_nil ?_
    refine tri_cutI (ι := { p : Unit // w_FnClassesBent_j1 x4 x5 = some r0 }) (fun p => inv_w_FnClassesBent_1 x4 x5) ?_ ?_
    ·skip
     refine tri_sr ?_
     refine s_mv (.inr rfl) (v := .sc (.int .i64 0)) rfl rfl rfl rfl ?_
     refine rt_nil ?_
     refine tri_block ?_
     refine tri_ownM (112, 0) rfl (fun hl2 => ?_)
     refine tri_loop (ι := { p : (List Rec) × Nat // x20.drop p.2 = p.1 ∧ w_FnClassesBent_l2 x4 x5 p.1 p.2 = some r0 }) (fun p => inv_w_FnClassesBent_2 x4 x5 x20 p.1.2) (fun p => p.1.1.length) ⟨(x20, 0), rfl, h⟩ ?_ ?_
     ·skip
      refine entX [((3, 0), ⟨50, 12, [[.sc (.int .i64 x4.id), .sc (.bool x4.reply), .sc (.bool x4.auth), .sc (.bool x4.cut), .sc (.bool x4.want), .sc (.bool x4.can), .sc (.int .i64 x4.code), .sc (.string x4.q.name), .sc (.int .i64 x4.q.ty), .ref (21, 109) 0 x4.an.length, .ref (21, 110) 0 x4.au.length, .ref (21, 111) 0 x4.ad.length]], false, true⟩, some (3, 0)), ((21, 109), ⟨39, 6, List.map recV x4.an, false, true⟩, some (21, 109)), ((21, 110), ⟨39, 6, List.map recV x4.au, false, true⟩, some (21, 110)), ((21, 111), ⟨39, 6, List.map recV x4.ad, false, true⟩, some (21, 111)), ((112, 0), ⟨39, 6, List.map recV x20, false, true⟩, some (112, 0))] [] ⟨⟨rfl, _, rfl, rfl, rfl, rfl, id, rowsCv_one (.cons (.free rfl) (.cons (.free rfl) (.cons (.free rfl) (.cons (.free rfl) (.cons (.free rfl) (.cons (.free rfl) (.cons (.free rfl) (.cons (.free rfl) (.cons (.free rfl) (.cons (.ref rfl) (.cons (.ref rfl) (.cons (.ref rfl) .nil)))))))))))), rowsZ_one rfl⟩, ⟨rfl, _, rfl, rfl, rfl, rfl, id, rowsCv_eq rfl (allFree_map recV_free), rowsZ_map recV_len⟩, ⟨rfl, _, rfl, rfl, rfl, rfl, id, rowsCv_eq rfl (allFree_map recV_free), rowsZ_map recV_len⟩, ⟨rfl, _, rfl, rfl, rfl, rfl, id, rowsCv_eq rfl (allFree_map recV_free), rowsZ_map recV_len⟩, ⟨rfl, _, rfl, rfl, rfl, rfl, id, rowsCv_eq rfl (allFree_map recV_free), rowsZ_map recV_len⟩, trivial⟩ trivial rfl rfl ?_
      exact ⟨(.ptr rfl), (.free rfl), (.ref rfl), (.free rfl), trivial⟩
     ·rintro ⟨⟨lrs2, v2_0⟩, hd2, h⟩
      replace hd2 : x20.drop v2_0 = lrs2 := hd2
      replace h : w_FnClassesBent_l2 x4 x5 lrs2 v2_0 = some r0 := h
      show Tri _ _ _ (inv_w_FnClassesBent_2 x4 x5 x20 v2_0)
      refine tri_seq ?_
      refine tri_sr ?_
      refine m1 ?_
      refine m1 ?_
      refine s_len (m := x20.length) rfl sl24 rfl rfl rfl rfl ?_
      refine s_of (st_lss rfl rfl rfl) rfl rfl rfl rfl ?_
      refine rt_nil ?_
      refine tri_cond rfl (fun c22 => ?_) (fun c22 => ?_)
      ·refine drop_elim hd2 c22 fun e2 rs2 he hx2 hn2 => ?_
       subst he
       rw [w_FnClassesBent_l2] at h
       refine tri_skip ?_
       refine tri_seq ?_
       refine tri_block ?_
       refine tri_cutI (ι := { p : Bool // w_FnClassesBent_j3 v2_0 (w_FnClassesBent_l2 x4 x5 rs2) p = some r0 }) (fun p => inv_w_FnClassesBent_3 x4 x5 x20 v2_0 p.1) ?_ ?_
       ·skip
        refine tri_region ?_
        refine m1 ?_
        refine m1 ?_
        refine s_index0 (i := v2_0) rfl rfl rfl rfl sl24 rfl (get_lt hx2) rfl rfl rfl ?_
        refine s_fieldAddr rfl rfl fd39_0 rfl rfl rfl rfl ?_
        refine s_load rfl rfl rfl (rowG hx2) ty9 rfl (.inr rfl) (by conv => lhs; whnf) rfl rfl rfl ?_
        refine m1 ?_
        refine bnd1_elim h fun x23 q24 h => ?_
        refine s_callN (kb := []) (ns := []) (v := .sc (.bool x23)) rfl rfl cl17 (wi_Under e2.name x5 x23 q24) rfl (.cons (.free rfl) (.cons (.free rfl) .nil)) trivial memNil .nil memNil rfl trivial memNil rfl rfl rfl rfl rfl rfl ?_
        refine s_of (st_not rfl rfl) rfl rfl rfl rfl ?_
        refine m1 ?_
        refine s_split (t := 127) rfl (fun b25 => ?_) (fun b25 => ?_)
        ·replace h := cond_t h b25
         refine s_skip rfl rfl rfl ?_
         refine s_skip rfl rfl rfl ?_
         refine s_skip rfl rfl rfl ?_
         refine s_skip rfl rfl rfl ?_
         refine s_skip rfl rfl rfl ?_
         refine s_skip rfl rfl rfl ?_
         refine s_pickT rfl rfl (v := .sc (.bool true)) rfl rfl rfl rfl ?_
         refine rt_nil ?_
         refine Exists.intro ⟨true, h⟩ ?_
         refine entX [((3, 0), ⟨50, 12, [[.sc (.int .i64 x4.id), .sc (.bool x4.reply), .sc (.bool x4.auth), .sc (.bool x4.cut), .sc (.bool x4.want), .sc (.bool x4.can), .sc (.int .i64 x4.code), .sc (.string x4.q.name), .sc (.int .i64 x4.q.ty), .ref (21, 109) 0 x4.an.length, .ref (21, 110) 0 x4.au.length, .ref (21, 111) 0 x4.ad.length]], false, true⟩, some (3, 0)), ((21, 109), ⟨39, 6, List.map recV x4.an, false, true⟩, some (21, 109)), ((21, 110), ⟨39, 6, List.map recV x4.au, false, true⟩, some (21, 110)), ((21, 111), ⟨39, 6, List.map recV x4.ad, false, true⟩, some (21, 111)), ((112, 0), ⟨39, 6, List.map recV x20, false, true⟩, some (112, 0))] [] ⟨⟨rfl, _, rfl, rfl, rfl, rfl, id, rowsCv_one (.cons (.free rfl) (.cons (.free rfl) (.cons (.free rfl) (.cons (.free rfl) (.cons (.free rfl) (.cons (.free rfl) (.cons (.free rfl) (.cons (.free rfl) (.cons (.free rfl) (.cons (.ref rfl) (.cons (.ref rfl) (.cons (.ref rfl) .nil)))))))))))), rowsZ_one rfl⟩, ⟨rfl, _, rfl, rfl, rfl, rfl, id, rowsCv_eq rfl (allFree_map recV_free), rowsZ_map recV_len⟩, ⟨rfl, _, rfl, rfl, rfl, rfl, id, rowsCv_eq rfl (allFree_map recV_free), rowsZ_map recV_len⟩, ⟨rfl, _, rfl, rfl, rfl, rfl, id, rowsCv_eq rfl (allFree_map recV_free), rowsZ_map recV_len⟩, ⟨rfl, _, rfl, rfl, rfl, rfl, id, rowsCv_eq rfl (allFree_map recV_free), rowsZ_map recV_len⟩, trivial⟩ trivial rfl rfl ?_
         exact ⟨(.ptr rfl), (.free rfl), (.ref rfl), (.free rfl), (.free rfl), trivial⟩
        ·replace h := cond_f h b25
         refine m1 ?_
         refine m1 ?_
         refine s_index0 (i := v2_0) rfl rfl rfl rfl sl24 rfl (get_lt hx2) rfl rfl rfl ?_
         refine s_fieldAddr rfl rfl fd39_1 rfl rfl rfl rfl ?_
         refine s_load rfl rfl rfl (rowG hx2) ty3 rfl (.inr rfl) (by conv => lhs; whnf) rfl rfl rfl ?_
         refine s_of (st_neI rfl rfl rfl) rfl rfl rfl rfl ?_
         refine s_pickF rfl rfl (by conv => lhs; whnf) rfl rfl rfl ?_
         refine rt_nil ?_
         refine Exists.intro ⟨!decide (e2.ty = 1), h⟩ ?_
         refine entX [((3, 0), ⟨50, 12, [[.sc (.int .i64 x4.id), .sc (.bool x4.reply), .sc (.bool x4.auth), .sc (.bool x4.cut), .sc (.bool x4.want), .sc (.bool x4.can), .sc (.int .i64 x4.code), .sc (.string x4.q.name), .sc (.int .i64 x4.q.ty), .ref (21, 109) 0 x4.an.length, .ref (21, 110) 0 x4.au.length, .ref (21, 111) 0 x4.ad.length]], false, true⟩, some (3, 0)), ((21, 109), ⟨39, 6, List.map recV x4.an, false, true⟩, some (21, 109)), ((21, 110), ⟨39, 6, List.map recV x4.au, false, true⟩, some (21, 110)), ((21, 111), ⟨39, 6, List.map recV x4.ad, false, true⟩, some (21, 111)), ((112, 0), ⟨39, 6, List.map recV x20, false, true⟩, some (112, 0))] [] ⟨⟨rfl, _, rfl, rfl, rfl, rfl, id, rowsCv_one (.cons (.free rfl) (.cons (.free rfl) (.cons (.free rfl) (.cons (.free rfl) (.cons (.free rfl) (.cons (.free rfl) (.cons (.free rfl) (.cons (.free rfl) (.cons (.free rfl) (.cons (.ref rfl) (.cons (.ref rfl) (.cons (.ref rfl) .nil)))))))))))), rowsZ_one rfl⟩, ⟨rfl, _, rfl, rfl, rfl, rfl, id, rowsCv_eq rfl (allFree_map recV_free), rowsZ_map recV_len⟩, ⟨rfl, _, rfl, rfl, rfl, rfl, id, rowsCv_eq rfl (allFree_map recV_free), rowsZ_map recV_len⟩, ⟨rfl, _, rfl, rfl, rfl, rfl, id, rowsCv_eq rfl (allFree_map recV_free), rowsZ_map recV_len⟩, ⟨rfl, _, rfl, rfl, rfl, rfl, id, rowsCv_eq rfl (allFree_map recV_free), rowsZ_map recV_len⟩, trivial⟩ trivial rfl rfl ?_
         exact ⟨(.ptr rfl), (.free rfl), (.ref rfl), (.free rfl), (.free rfl), trivial⟩
       ·rintro ⟨j3_0, h⟩
        replace h : w_FnClassesBent_j3 v2_0 (w_FnClassesBent_l2 x4 x5 rs2) j3_0 = some r0 := h
        unfold w_FnClassesBent_j3 at h
        show Tri _ _ _ (inv_w_FnClassesBent_3 x4 x5 x20 v2_0 j3_0)
        refine tri_cond rfl (fun c23 => ?_) (fun c23 => ?_)
        ·replace h := cond_t h c23
         refine tri_sr ?_
         refine s_mv (.inr rfl) (v := .sc (.bool false)) rfl rfl rfl rfl ?_
         refine rt_nil ?_
         refine tri_ret ?_
         have e0 := (some1 h); subst e0
         exact endY [] [] (rvC (resTmp rfl) rvN) trivial trivial rfl rfl rfl rfl (.free rfl)
        ·replace h := cond_f h c23
         refine tri_skip ?_
         refine tri_region ?_
         refine m1 ?_
         refine s_inc (a := v2_0) (b := 1) rfl rfl rfl rfl (by have := get_lt hx2; have := hl2; omega) rfl rfl rfl ?_
         refine m2 ?_
         refine rt_nil ?_
         refine Exists.intro ⟨(rs2, (v2_0 + 1)), hn2, h⟩ (And.intro (Nat.lt_succ_self _) ?_)
         refine entX [((3, 0), ⟨50, 12, [[.sc (.int .i64 x4.id), .sc (.bool x4.reply), .sc (.bool x4.auth), .sc (.bool x4.cut), .sc (.bool x4.want), .sc (.bool x4.can), .sc (.int .i64 x4.code), .sc (.string x4.q.name), .sc (.int .i64 x4.q.ty), .ref (21, 109) 0 x4.an.length, .ref (21, 110) 0 x4.au.length, .ref (21, 111) 0 x4.ad.length]], false, true⟩, some (3, 0)), ((21, 109), ⟨39, 6, List.map recV x4.an, false, true⟩, some (21, 109)), ((21, 110), ⟨39, 6, List.map recV x4.au, false, true⟩, some (21, 110)), ((21, 111), ⟨39, 6, List.map recV x4.ad, false, true⟩, some (21, 111)), ((112, 0), ⟨39, 6, List.map recV x20, false, true⟩, some (112, 0))] [] ⟨⟨rfl, _, rfl, rfl, rfl, rfl, id, rowsCv_one (.cons (.free rfl) (.cons (.free rfl) (.cons (.free rfl) (.cons (.free rfl) (.cons (.free rfl) (.cons (.free rfl) (.cons (.free rfl) (.cons (.free rfl) (.cons (.free rfl) (.cons (.ref rfl) (.cons (.ref rfl) (.cons (.ref rfl) .nil)))))))))))), rowsZ_one rfl⟩, ⟨rfl, _, rfl, rfl, rfl, rfl, id, rowsCv_eq rfl (allFree_map recV_free), rowsZ_map recV_len⟩, ⟨rfl, _, rfl, rfl, rfl, rfl, id, rowsCv_eq rfl (allFree_map recV_free), rowsZ_map recV_len⟩, ⟨rfl, _, rfl, rfl, rfl, rfl, id, rowsCv_eq rfl (allFree_map recV_free), rowsZ_map recV_len⟩, ⟨rfl, _, rfl, rfl, rfl, rfl, id, rowsCv_eq rfl (allFree_map recV_free), rowsZ_map recV_len⟩, trivial⟩ trivial rfl rfl ?_
         exact ⟨(.ptr rfl), (.free rfl), (.ref rfl), (.free rfl), trivial⟩
      ·have he := drop_f hd2 c22; subst he
       rw [w_FnClassesBent_l2] at h
       refine tri_exit ?_
       refine Exists.intro ⟨(), h⟩ ?_
       refine entX [((3, 0), ⟨50, 12, [[.sc (.int .i64 x4.id), .sc (.bool x4.reply), .sc (.bool x4.auth), .sc (.bool x4.cut), .sc (.bool x4.want), .sc (.bool x4.can), .sc (.int .i64 x4.code), .sc (.string x4.q.name), .sc (.int .i64 x4.q.ty), .ref (21, 109) 0 x4.an.length, .ref (21, 110) 0 x4.au.length, .ref (21, 111) 0 x4.ad.length]], false, true⟩, some (3, 0)), ((21, 109), ⟨39, 6, List.map recV x4.an, false, true⟩, some (21, 109)), ((21, 110), ⟨39, 6, List.map recV x4.au, false, true⟩, some (21, 110)), ((21, 111), ⟨39, 6, List.map recV x4.ad, false, true⟩, some (21, 111))] [] ⟨⟨rfl, _, rfl, rfl, rfl, rfl, id, rowsCv_one (.cons (.free rfl) (.cons (.free rfl) (.cons (.free rfl) (.cons (.free rfl) (.cons (.free rfl) (.cons (.free rfl) (.cons (.free rfl) (.cons (.free rfl) (.cons (.free rfl) (.cons (.ref rfl) (.cons (.ref rfl) (.cons (.ref rfl) .nil)))))))))))), rowsZ_one rfl⟩, ⟨rfl, _, rfl, rfl, rfl, rfl, id, rowsCv_eq rfl (allFree_map recV_free), rowsZ_map recV_len⟩, ⟨rfl, _, rfl, rfl, rfl, rfl, id, rowsCv_eq rfl (allFree_map recV_free), rowsZ_map recV_len⟩, ⟨rfl, _, rfl, rfl, rfl, rfl, id, rowsCv_eq rfl (allFree_map recV_free), rowsZ_map recV_len⟩, trivial⟩ trivial rfl rfl ?_
       exact ⟨(.ptr rfl), (.free rfl), trivial⟩
    ·rintro ⟨u, h⟩
     replace h : w_FnClassesBent_j1 x4 x5 = some r0 := h
     unfold w_FnClassesBent_j1 at h
     show Tri _ _ _ (inv_w_FnClassesBent_1 x4 x5)
     refine tri_sr ?_
     refine s_loadR rfl rfl rfl rfl ty50 rfl rfl rfl ?_
     refine m1 ?_
     refine bnd1_elim h fun x22 q23 h => ?_
     refine s_callN (kb := [(21, 109), (21, 110), (21, 111)]) (ns := []) (v := .ref (137, 0) 0 x22.length) rfl rfl cl29 (wi_ServersIn x4 x5 x22 q23) rfl (.cons (relAggL (.cons (.free rfl) (.cons (.free rfl) (.cons (.free rfl) (.cons (.free rfl) (.cons (.free rfl) (.cons (.free rfl) (.cons (.free rfl) (.cons (.free rfl) (.cons (.free rfl) (.cons (lendL rfl (.head _) rfl recV_free recV_len) (.cons (lendL rfl (.tail _ (.head _)) rfl recV_free recV_len) (.cons (lendL rfl (.tail _ (.tail _ (.head _))) rfl recV_free recV_len) .nil))))))))))))) (.cons (.free rfl) .nil)) trivial memNil .nil (fun _ _ => List.not_mem_nil) rfl ⟨(allSc_map recV_sc), trivial⟩ memNil rfl (by simp only [V.mat, V.mat1, V.mat0, matL, matT, List.length_map] <;> rfl) rfl rfl rfl rfl ?_
     refine m2 ?_
     refine rt_nil ?_
     refine tri_seq ?_
     refine tri_sr ?_
     refine s_mv (.inr rfl) (v := .sc (.int .i64 0)) rfl rfl rfl rfl ?_
     refine rt_nil ?_
     refine tri_block ?_
     refine tri_ownM (137, 0) rfl (fun hl4 => ?_)
     refine tri_loop (ι := { p : (List Rec) × Nat // x22.drop p.2 = p.1 ∧ w_FnClassesBent_l4 x4 x5 p.1 p.2 = some r0 }) (fun p => inv_w_FnClassesBent_4 x4 x5 x22 p.1.2) (fun p => p.1.1.length) ⟨(x22, 0), rfl, h⟩ ?_ ?_
     ·skip
      refine entX [((3, 0), ⟨50, 12, [[.sc (.int .i64 x4.id), .sc (.bool x4.reply), .sc (.bool x4.auth), .sc (.bool x4.cut), .sc (.bool x4.want), .sc (.bool x4.can), .sc (.int .i64 x4.code), .sc (.string x4.q.name), .sc (.int .i64 x4.q.ty), .ref (21, 109) 0 x4.an.length, .ref (21, 110) 0 x4.au.length, .ref (21, 111) 0 x4.ad.length]], false, true⟩, some (3, 0)), ((21, 109), ⟨39, 6, List.map recV x4.an, false, true⟩, some (21, 109)), ((21, 110), ⟨39, 6, List.map recV x4.au, false, true⟩, some (21, 110)), ((21, 111), ⟨39, 6, List.map recV x4.ad, false, true⟩, some (21, 111)), ((137, 0), ⟨39, 6, List.map recV x22, false, true⟩, some (137, 0))] [] ⟨⟨rfl, _, rfl, rfl, rfl, rfl, id, rowsCv_one (.cons (.free rfl) (.cons (.free rfl) (.cons (.free rfl) (.cons (.free rfl) (.cons (.free rfl) (.cons (.free rfl) (.cons (.free rfl) (.cons (.free rfl) (.cons (.free rfl) (.cons (.ref rfl) (.cons (.ref rfl) (.cons (.ref rfl) .nil)))))))))))), rowsZ_one rfl⟩, ⟨rfl, _, rfl, rfl, rfl, rfl, id, rowsCv_eq rfl (allFree_map recV_free), rowsZ_map recV_len⟩, ⟨rfl, _, rfl, rfl, rfl, rfl, id, rowsCv_eq rfl (allFree_map recV_free), rowsZ_map recV_len⟩, ⟨rfl, _, rfl, rfl, rfl, rfl, id, rowsCv_eq rfl (allFree_map recV_free), rowsZ_map recV_len⟩, ⟨rfl, _, rfl, rfl, rfl, rfl, id, rowsCv_eq rfl (allFree_map recV_free), rowsZ_map recV_len⟩, trivial⟩ trivial rfl rfl ?_
      exact ⟨(.ptr rfl), (.free rfl), (.ref rfl), (.free rfl), trivial⟩
     ·rintro ⟨⟨lrs4, v4_0⟩, hd4, h⟩
      replace hd4 : x22.drop v4_0 = lrs4 := hd4
      replace h : w_FnClassesBent_l4 x4 x5 lrs4 v4_0 = some r0 := h
      show Tri _ _ _ (inv_w_FnClassesBent_4 x4 x5 x22 v4_0)
      refine tri_seq ?_
      refine tri_sr ?_
      refine m1 ?_
      refine m1 ?_
      refine s_len (m := x22.length) rfl sl24 rfl rfl rfl rfl ?_
      refine s_of (st_lss rfl rfl rfl) rfl rfl rfl rfl ?_
      refine rt_nil ?_
      refine tri_cond rfl (fun c24 => ?_) (fun c24 => ?_)
      ·refine drop_elim hd4 c24 fun e4 rs4 he hx4 hn4 => ?_
       subst he
       rw [w_FnClassesBent_l4] at h
       refine tri_skip ?_
       refine tri_seq ?_
       refine tri_block ?_
       refine tri_cutI (ι := { p : Bool // w_FnClassesBent_j5 v4_0 (w_FnClassesBent_l4 x4 x5 rs4) p = some r0 }) (fun p => inv_w_FnClassesBent_5 x4 x5 x22 v4_0 p.1) ?_ ?_
       ·skip
        refine tri_draw mixed ?_
        refine m1 ?_
        refine m1 ?_
        refine s_index0 (i := v4_0) rfl rfl rfl rfl sl24 rfl (get_lt hx4) rfl rfl rfl ?_
        refine s_fieldAddr rfl rfl fd39_0 rfl rfl rfl rfl ?_
        refine s_load rfl rfl rfl (rowG hx4) ty9 rfl (.inr rfl) (by conv => lhs; whnf) rfl rfl rfl ?_
        refine m1 ?_
        refine bnd1_elim h fun x25 q26 h => ?_
        refine s_callN (kb := []) (ns := []) (v := .sc (.bool x25)) rfl rfl cl17 (wi_Under e4.name x5 x25 q26) rfl (.cons (.free rfl) (.cons (.free rfl) .nil)) trivial memNil .nil memNil rfl trivial memNil rfl rfl rfl rfl rfl rfl ?_
        refine s_of (st_not rfl rfl) rfl rfl rfl rfl ?_
        refine m1 ?_
        refine s_split (t := 152) rfl (fun b27 => ?_) (fun b27 => ?_)
        ·replace h := cond_t h b27
         refine s_skip rfl rfl rfl ?_
         refine s_skip rfl rfl rfl ?_
         refine s_skip rfl rfl rfl ?_
         refine s_skip rfl rfl rfl ?_
         refine s_skip rfl rfl rfl ?_
         refine s_skip rfl rfl rfl ?_
         refine s_skip rfl rfl rfl ?_
         refine s_pickT rfl rfl (v := .sc (.bool true)) rfl rfl rfl rfl ?_
         refine m1 ?_
         refine s_skip rfl rfl rfl ?_
         refine s_skip rfl rfl rfl ?_
         refine s_skip rfl rfl rfl ?_
         refine s_skip rfl rfl rfl ?_
         refine s_skip rfl rfl rfl ?_
         refine s_skip rfl rfl rfl ?_
         refine s_skip rfl rfl rfl ?_
         refine s_skip rfl rfl rfl ?_
         refine s_skip rfl rfl rfl ?_
         refine s_skip rfl rfl rfl ?_
         refine s_pickT rfl rfl (v := .sc (.bool true)) rfl rfl rfl rfl ?_
         refine rt_nil ⟨by kernel_rfl, ?_⟩
         refine Exists.intro ⟨true, h⟩ ?_
         refine entX [((3, 0), ⟨50, 12, [[.sc (.int .i64 x4.id), .sc (.bool x4.reply), .sc (.bool x4.auth), .sc (.bool x4.cut), .sc (.bool x4.want), .sc (.bool x4.can), .sc (.int .i64 x4.code), .sc (.string x4.q.name), .sc (.int .i64 x4.q.ty), .ref (21, 109) 0 x4.an.length, .ref (21, 110) 0 x4.au.length, .ref (21, 111) 0 x4.ad.length]], false, true⟩, some (3, 0)), ((21, 109), ⟨39, 6, List.map recV x4.an, false, true⟩, some (21, 109)), ((21, 110), ⟨39, 6, List.map recV x4.au, false, true⟩, some (21, 110)), ((21, 111), ⟨39, 6, List.map recV x4.ad, false, true⟩, some (21, 111)), ((137, 0), ⟨39, 6, List.map recV x22, false, true⟩, some (137, 0))] [] ⟨⟨rfl, _, rfl, rfl, rfl, rfl, id, rowsCv_one (.cons (.free rfl) (.cons (.free rfl) (.cons (.free rfl) (.cons (.free rfl) (.cons (.free rfl) (.cons (.free rfl) (.cons (.free rfl) (.cons (.free rfl) (.cons (.free rfl) (.cons (.ref rfl) (.cons (.ref rfl) (.cons (.ref rfl) .nil)))))))))))), rowsZ_one rfl⟩, ⟨rfl, _, rfl, rfl, rfl, rfl, id, rowsCv_eq rfl (allFree_map recV_free), rowsZ_map recV_len⟩, ⟨rfl, _, rfl, rfl, rfl, rfl, id, rowsCv_eq rfl (allFree_map recV_free), rowsZ_map recV_len⟩, ⟨rfl, _, rfl, rfl, rfl, rfl, id, rowsCv_eq rfl (allFree_map recV_free), rowsZ_map recV_len⟩, ⟨rfl, _, rfl, rfl, rfl, rfl, id, rowsCv_eq rfl (allFree_map recV_free), rowsZ_map recV_len⟩, trivial⟩ trivial rfl rfl ?_
         exact ⟨(.ptr rfl), (.free rfl), (.ref rfl), (.free rfl), (.free rfl), trivial⟩
        ·replace h := cond_f h b27
         refine m1 ?_
         refine m1 ?_
         refine s_index0 (i := v4_0) rfl rfl rfl rfl sl24 rfl (get_lt hx4) rfl rfl rfl ?_
         refine s_fieldAddr rfl rfl fd39_0 rfl rfl rfl rfl ?_
         refine s_load rfl rfl rfl (rowG hx4) ty9 rfl (.inr rfl) (by conv => lhs; whnf) rfl rfl rfl ?_
         refine m1 ?_
         refine s_of (st_eqS rfl rfl rfl) rfl rfl rfl rfl ?_
         refine s_pickF rfl rfl (by conv => lhs; whnf) rfl rfl rfl ?_
         refine m1 ?_
         refine s_split (t := 161) rfl (fun b28 => ?_) (fun b28 => ?_)
         ·replace h := cond_t h b28
          refine s_skip rfl rfl rfl ?_
          refine s_skip rfl rfl rfl ?_
          refine s_skip rfl rfl rfl ?_
          refine s_skip rfl rfl rfl ?_
          refine s_skip rfl rfl rfl ?_
          refine s_skip rfl rfl rfl ?_
          refine s_skip rfl rfl rfl ?_
          refine s_skip rfl rfl rfl ?_
          refine s_skip rfl rfl rfl ?_
          refine s_skip rfl rfl rfl ?_
          refine s_pickT rfl rfl (v := .sc (.bool true)) rfl rfl rfl rfl ?_
          refine rt_nil ⟨by kernel_rfl, ?_⟩
          refine Exists.intro ⟨true, h⟩ ?_
          refine entX [((3, 0), ⟨50, 12, [[.sc (.int .i64 x4.id), .sc (.bool x4.reply), .sc (.bool x4.auth), .sc (.bool x4.cut), .sc (.bool x4.want), .sc (.bool x4.can), .sc (.int .i64 x4.code), .sc (.string x4.q.name), .sc (.int .i64 x4.q.ty), .ref (21, 109) 0 x4.an.length, .ref (21, 110) 0 x4.au.length, .ref (21, 111) 0 x4.ad.length]], false, true⟩, some (3, 0)), ((21, 109), ⟨39, 6, List.map recV x4.an, false, true⟩, some (21, 109)), ((21, 110), ⟨39, 6, List.map recV x4.au, false, true⟩, some (21, 110)), ((21, 111), ⟨39, 6, List.map recV x4.ad, false, true⟩, some (21, 111)), ((137, 0), ⟨39, 6, List.map recV x22, false, true⟩, some (137, 0))] [] ⟨⟨rfl, _, rfl, rfl, rfl, rfl, id, rowsCv_one (.cons (.free rfl) (.cons (.free rfl) (.cons (.free rfl) (.cons (.free rfl) (.cons (.free rfl) (.cons (.free rfl) (.cons (.free rfl) (.cons (.free rfl) (.cons (.free rfl) (.cons (.ref rfl) (.cons (.ref rfl) (.cons (.ref rfl) .nil)))))))))))), rowsZ_one rfl⟩, ⟨rfl, _, rfl, rfl, rfl, rfl, id, rowsCv_eq rfl (allFree_map recV_free), rowsZ_map recV_len⟩, ⟨rfl, _, rfl, rfl, rfl, rfl, id, rowsCv_eq rfl (allFree_map recV_free), rowsZ_map recV_len⟩, ⟨rfl, _, rfl, rfl, rfl, rfl, id, rowsCv_eq rfl (allFree_map recV_free), rowsZ_map recV_len⟩, ⟨rfl, _, rfl, rfl, rfl, rfl, id, rowsCv_eq rfl (allFree_map recV_free), rowsZ_map recV_len⟩, trivial⟩ trivial rfl rfl ?_
          exact ⟨(.ptr rfl), (.free rfl), (.ref rfl), (.free rfl), (.free rfl), trivial⟩
         ·replace h := cond_f h b28
          refine s_fieldAddr rfl rfl fd50_7 rfl rfl rfl rfl ?_
          refine s_fieldAddr rfl rfl fd28_0 rfl rfl rfl rfl ?_
          refine s_load rfl rfl rfl rfl ty9 rfl (.inr rfl) (by conv => lhs; whnf) rfl rfl rfl ?_
          refine m1 ?_
          refine m1 ?_
          refine s_index0 (i := v4_0) rfl rfl rfl rfl sl24 rfl (get_lt hx4) rfl rfl rfl ?_
          refine s_fieldAddr rfl rfl fd39_0 rfl rfl rfl rfl ?_
          refine s_load rfl rfl rfl (rowG hx4) ty9 rfl (.inr rfl) (by conv => lhs; whnf) rfl rfl rfl ?_
          refine bnd1_elim h fun x29 q30 h => ?_
          refine s_callN (kb := []) (ns := []) (v := .sc (.bool x29)) rfl rfl cl17 (wi_Under x4.q.name e4.name x29 q30) rfl (.cons (.free rfl) (.cons (.free rfl) .nil)) trivial memNil .nil memNil rfl trivial memNil rfl rfl rfl rfl rfl rfl ?_
          refine s_of (st_not rfl rfl) rfl rfl rfl rfl ?_
          refine s_pickF rfl rfl (by conv => lhs; whnf) rfl rfl rfl ?_
          refine rt_nil ⟨by kernel_rfl, ?_⟩
          refine Exists.intro ⟨!x29, h⟩ ?_
          refine entX [((3, 0), ⟨50, 12, [[.sc (.int .i64 x4.id), .sc (.bool x4.reply), .sc (.bool x4.auth), .sc (.bool x4.cut), .sc (.bool x4.want), .sc (.bool x4.can), .sc (.int .i64 x4.code), .sc (.string x4.q.name), .sc (.int .i64 x4.q.ty), .ref (21, 109) 0 x4.an.length, .ref (21, 110) 0 x4.au.length, .ref (21, 111) 0 x4.ad.length]], false, true⟩, some (3, 0)), ((21, 109), ⟨39, 6, List.map recV x4.an, false, true⟩, some (21, 109)), ((21, 110), ⟨39, 6, List.map recV x4.au, false, true⟩, some (21, 110)), ((21, 111), ⟨39, 6, List.map recV x4.ad, false, true⟩, some (21, 111)), ((137, 0), ⟨39, 6, List.map recV x22, false, true⟩, some (137, 0))] [] ⟨⟨rfl, _, rfl, rfl, rfl, rfl, id, rowsCv_one (.cons (.free rfl) (.cons (.free rfl) (.cons (.free rfl) (.cons (.free rfl) (.cons (.free rfl) (.cons (.free rfl) (.cons (.free rfl) (.cons (.free rfl) (.cons (.free rfl) (.cons (.ref rfl) (.cons (.ref rfl) (.cons (.ref rfl) .nil)))))))))))), rowsZ_one rfl⟩, ⟨rfl, _, rfl, rfl, rfl, rfl, id, rowsCv_eq rfl (allFree_map recV_free), rowsZ_map recV_len⟩, ⟨rfl, _, rfl, rfl, rfl, rfl, id, rowsCv_eq rfl (allFree_map recV_free), rowsZ_map recV_len⟩, ⟨rfl, _, rfl, rfl, rfl, rfl, id, rowsCv_eq rfl (allFree_map recV_free), rowsZ_map recV_len⟩, ⟨rfl, _, rfl, rfl, rfl, rfl, id, rowsCv_eq rfl (allFree_map recV_free), rowsZ_map recV_len⟩, trivial⟩ trivial rfl rfl ?_
          exact ⟨(.ptr rfl), (.free rfl), (.ref rfl), (.free rfl), (.free rfl), trivial⟩
       ·rintro ⟨j5_0, h⟩
        replace h : w_FnClassesBent_j5 v4_0 (w_FnClassesBent_l4 x4 x5 rs4) j5_0 = some r0 := h
        unfold w_FnClassesBent_j5 at h
        show Tri _ _ _ (inv_w_FnClassesBent_5 x4 x5 x22 v4_0 j5_0)
        refine tri_cond rfl (fun c25 => ?_) (fun c25 => ?_)
        ·replace h := cond_t h c25
         refine tri_sr ?_
         refine s_mv (.inr rfl) (v := .sc (.bool false)) rfl rfl rfl rfl ?_
         refine rt_nil ?_
         refine tri_ret ?_
         have e0 := (some1 h); subst e0
         exact endY [] [] (rvC (resTmp rfl) rvN) trivial trivial rfl rfl rfl rfl (.free rfl)
        ·replace h := cond_f h c25
         refine tri_skip ?_
         refine tri_region ?_
         refine m1 ?_
         refine s_inc (a := v4_0) (b := 1) rfl rfl rfl rfl (by have := get_lt hx4; have := hl4; omega) rfl rfl rfl ?_
         refine m2 ?_
         refine rt_nil ?_
         refine Exists.intro ⟨(rs4, (v4_0 + 1)), hn4, h⟩ (And.intro (Nat.lt_succ_self _) ?_)
         refine entX [((3, 0), ⟨50, 12, [[.sc (.int .i64 x4.id), .sc (.bool x4.reply), .sc (.bool x4.auth), .sc (.bool x4.cut), .sc (.bool x4.want), .sc (.bool x4.can), .sc (.int .i64 x4.code), .sc (.string x4.q.name), .sc (.int .i64 x4.q.ty), .ref (21, 109) 0 x4.an.length, .ref (21, 110) 0 x4.au.length, .ref (21, 111) 0 x4.ad.length]], false, true⟩, some (3, 0)), ((21, 109), ⟨39, 6, List.map recV x4.an, false, true⟩, some (21, 109)), ((21, 110), ⟨39, 6, List.map recV x4.au, false, true⟩, some (21, 110)), ((21, 111), ⟨39, 6, List.map recV x4.ad, false, true⟩, some (21, 111)), ((137, 0), ⟨39, 6, List.map recV x22, false, true⟩, some (137, 0))] [] ⟨⟨rfl, _, rfl, rfl, rfl, rfl, id, rowsCv_one (.cons (.free rfl) (.cons (.free rfl) (.cons (.free rfl) (.cons (.free rfl) (.cons (.free rfl) (.cons (.free rfl) (.cons (.free rfl) (.cons (.free rfl) (.cons (.free rfl) (.cons (.ref rfl) (.cons (.ref rfl) (.cons (.ref rfl) .nil)))))))))))), rowsZ_one rfl⟩, ⟨rfl, _, rfl, rfl, rfl, rfl, id, rowsCv_eq rfl (allFree_map recV_free), rowsZ_map recV_len⟩, ⟨rfl, _, rfl, rfl, rfl, rfl, id, rowsCv_eq rfl (allFree_map recV_free), rowsZ_map recV_len⟩, ⟨rfl, _, rfl, rfl, rfl, rfl, id, rowsCv_eq rfl (allFree_map recV_free), rowsZ_map recV_len⟩, ⟨rfl, _, rfl, rfl, rfl, rfl, id, rowsCv_eq rfl (allFree_map recV_free), rowsZ_map recV_len⟩, trivial⟩ trivial rfl rfl ?_
         exact ⟨(.ptr rfl), (.free rfl), (.ref rfl), (.free rfl), trivial⟩
      ·have he := drop_f hd4 c24; subst he
       rw [w_FnClassesBent_l4] at h
       refine tri_exit ?_
       refine tri_sr ?_
       refine s_mv (.inr rfl) (v := .sc (.bool true)) rfl rfl rfl rfl ?_
       refine rt_nil ?_
       refine tri_ret ?_
       have e0 := (some1 h); subst e0
       exact endY [] [] (rvC (resTmp rfl) rvN) trivial trivial rfl rfl rfl rfl (.free rfl)

end Go.Abs.M
