/- Walks of the functions that the law of GetMsg reaches: what each of them computes, where its pure function does not fail. -/
import Derived.Test.YtainnoaellcpdaaDoorFnsGetMsg
import Derived.Test.YtainnoaellcpdaaDoorChecked
import Derived.Test.YtainnoaellcpdaaDoorShelf
set_option linter.unusedSimpArgs false
set_option linter.unusedVariables false
namespace Go.Abs.M
open Go Go.Abs Go.Proofs
theorem byt22 : isBytes Tryd.prog 22 = some 5 := by kernel_rfl
theorem cl16 : callable Tryd.prog 16 = true := by kernel_rfl
theorem cl17 : callable Tryd.prog 17 = true := by kernel_rfl
theorem cl18 : callable Tryd.prog 18 = true := by kernel_rfl
theorem cl29 : callable Tryd.prog 29 = true := by kernel_rfl
theorem cl30 : callable Tryd.prog 30 = true := by kernel_rfl
theorem cl31 : callable Tryd.prog 31 = true := by kernel_rfl
theorem cl36 : callable Tryd.prog 36 = true := by kernel_rfl
theorem cl41 : callable Tryd.prog 41 = true := by kernel_rfl
theorem cl42 : callable Tryd.prog 42 = true := by kernel_rfl
theorem cl43 : callable Tryd.prog 43 = true := by kernel_rfl
theorem cl51 : callable Tryd.prog 51 = true := by kernel_rfl
theorem cl57 : callable Tryd.prog 57 = true := by kernel_rfl
theorem cl58 : callable Tryd.prog 58 = true := by kernel_rfl
theorem cl63 : callable Tryd.prog 63 = true := by kernel_rfl
theorem fd24_0 : fldTy Tryd.prog 24 0 = some (0, 0 + 1, false) := by kernel_rfl
theorem fd24_1 : fldTy Tryd.prog 24 1 = some (1, 0 + 1, false) := by kernel_rfl
theorem fd62_0 : fldTy Tryd.prog 62 0 = some (0, 0 + 1, false) := by kernel_rfl
theorem fd62_1 : fldTy Tryd.prog 62 1 = some (1, 0 + 1, false) := by kernel_rfl
theorem fd62_2 : fldTy Tryd.prog 62 2 = some (2, 0 + 1, false) := by kernel_rfl
theorem fd62_3 : fldTy Tryd.prog 62 3 = some (3, 0 + 1, false) := by kernel_rfl
theorem fd62_4 : fldTy Tryd.prog 62 4 = some (4, 0 + 1, false) := by kernel_rfl
theorem fd62_5 : fldTy Tryd.prog 62 5 = some (5, 0 + 1, false) := by kernel_rfl
theorem ik3 : intK Tryd.prog 3 = some .i64 := by kernel_rfl
theorem ik5 : intK Tryd.prog 5 = some .u8 := by kernel_rfl
theorem iss9 : isStr Tryd.prog 9 = true := by kernel_rfl
theorem sl22 : slTy Tryd.prog 22 = some (5, 1, 1) := by kernel_rfl
theorem sl69 : slTy Tryd.prog 69 = some (9, 1, 16) := by kernel_rfl
theorem stc24 : strTy Tryd.prog 24 = some ([(0, 1), (1, 1)], [.string ⟨#[]⟩, .int .i64 0]) := by kernel_rfl
theorem stc33 : strTy Tryd.prog 33 = some ([(0, 1), (1, 1), (2, 1), (3, 1), (4, 1), (5, 1), (6, 1), (7, 2), (9, 1), (10, 1), (11, 1)], [.int .i64 0, .bool false, .bool false, .bool false, .bool false, .bool false, .int .i64 0, .string ⟨#[]⟩, .int .i64 0, .slice none 0 0, .slice none 0 0, .slice none 0 0]) := by kernel_rfl
theorem stc62 : strTy Tryd.prog 62 = some ([(0, 1), (1, 1), (2, 1), (3, 1), (4, 1), (5, 1)], [.string ⟨#[]⟩, .int .i64 0, .int .i64 0, .int .i64 0, .string ⟨#[]⟩, .string ⟨#[]⟩]) := by kernel_rfl
theorem ty24 : tyK Tryd.prog 24 = some (true, 2) := by kernel_rfl
theorem ty3 : tyK Tryd.prog 3 = some (false, 1) := by kernel_rfl
theorem ty33 : tyK Tryd.prog 33 = some (true, 12) := by kernel_rfl
theorem ty5 : tyK Tryd.prog 5 = some (false, 1) := by kernel_rfl
theorem ty62 : tyK Tryd.prog 62 = some (true, 6) := by kernel_rfl
theorem ty9 : tyK Tryd.prog 9 = some (false, 1) := by kernel_rfl
theorem zc24 : zeroC Tryd.prog 24 = some [.string ⟨#[]⟩, .int .i64 0] := by kernel_rfl
theorem zc33 : zeroC Tryd.prog 33 = some [.int .i64 0, .bool false, .bool false, .bool false, .bool false, .bool false, .int .i64 0, .string ⟨#[]⟩, .int .i64 0, .slice none 0 0, .slice none 0 0, .slice none 0 0] := by kernel_rfl
theorem zc5 : zeroC Tryd.prog 5 = some [.int .u8 0] := by kernel_rfl
theorem zc62 : zeroC Tryd.prog 62 = some [.string ⟨#[]⟩, .int .i64 0, .int .i64 0, .int .i64 0, .string ⟨#[]⟩, .string ⟨#[]⟩] := by kernel_rfl
theorem zc9 : zeroC Tryd.prog 9 = some [.string ⟨#[]⟩] := by kernel_rfl
theorem mixed : Tryd.prog.follows .mixedOrders = true := by kernel_rfl
/- laws.toByteS -/
def inv_w_toByteS_0 (p0 : List Int) (v0_0 : List Int) (v0_1 : Nat) : St := mkT 22 [(0, .lst 1 (List.map byteV p0)), (3, .ref (7, 0) 0 v0_0.length), (4, .sc (.int .i64 (v0_1 : Int)))] [((7, 0), some ⟨5, 1, List.map byteV v0_0, false, true⟩)]
set_option maxRecDepth 4000 in
set_option maxHeartbeats 800000 in
theorem ww_toByteS (p0 : List Int) (r0 : List Int) (h : w_toByteS p0 = some r0) : Runs Tryd.prog 6 [.lst 1 (List.map byteV p0)] [] (.own 5 1 (List.map byteV r0)) [] := by
 unfold w_toByteS at h
 refine runsR [.tmp 2] Tryd.func6 rfl rfl rfl rfl ?_
 rw [Tryd.ntmps6]
 refine tri_sr ?_
 refine s_mv (.inr rfl) (v := .nils) rfl rfl rfl rfl ?_
 refine rt_nil ?_
 refine tri_sr ?_
 refine m1 ?_
 refine s_lenL rfl sl22 rfl rfl rfl rfl ?_
 refine grd_elim h fun g1 h => ?_
 refine s_makeL (f := byteV) (a := 0) rfl rfl rfl rfl rfl sl22 zc5 rfl rfl rfl rfl g1.1 g1.2 (rowZ_cv rfl rowZ_nil) rfl rfl ?_
 refine m2 ?_
 refine rt_nil ?_
 refine tri_seq ?_
 refine tri_sr ?_
 refine s_mv (.inr rfl) (v := .sc (.int .i64 0)) rfl rfl rfl rfl ?_
 refine rt_nil ?_
 refine tri_block ?_
 refine tri_lstM 0 rfl (fun hl0 => ?_)
 refine tri_loop (ι := { p : (List Int) × (List Int) × Nat // p0.drop p.2.2 = p.1 ∧ w_toByteS_l0 p.1 p.2.1 p.2.2 = some r0 }) (fun p => inv_w_toByteS_0 p0 p.1.2.1 p.1.2.2) (fun p => p.1.1.length) ⟨(p0, List.replicate (p0.length : Int).toNat 0, 0), rfl, h⟩ ?_ ?_
 ·skip
  refine entX [((7, 0), ⟨5, 1, List.map byteV (List.replicate (p0.length : Int).toNat 0), false, true⟩, some (7, 0))] [] ⟨⟨rfl, _, rfl, rfl, rfl, rfl, id, rowsCv_eq rfl (allFree_map byteV_free), rowsZ_map byteV_len⟩, trivial⟩ trivial rfl rfl ?_
  exact ⟨(.free rfl), (.ref rfl), (.free rfl), trivial⟩
 ·rintro ⟨⟨lrs0, v0_0, v0_1⟩, hd0, h⟩
  replace hd0 : p0.drop v0_1 = lrs0 := hd0
  replace h : w_toByteS_l0 lrs0 v0_0 v0_1 = some r0 := h
  show Tri _ _ _ (inv_w_toByteS_0 p0 v0_0 v0_1)
  refine tri_seq ?_
  refine tri_sr ?_
  refine m1 ?_
  refine m1 ?_
  refine s_lenL rfl sl22 rfl rfl rfl rfl ?_
  refine s_of (st_lss rfl rfl rfl) rfl rfl rfl rfl ?_
  refine rt_nil ?_
  refine tri_cond rfl (fun c2 => ?_) (fun c2 => ?_)
  ·refine drop_elim hd0 c2 fun e0 rs0 he hx0 hn0 => ?_
   subst he
   rw [w_toByteS_l0] at h
   refine tri_skip ?_
   refine tri_seq ?_
   refine tri_block ?_
   refine tri_region ?_
   refine m1 ?_
   refine m1 ?_
   refine m1 ?_
   refine m1 ?_
   refine s_indexF (i := v0_1) rfl rfl rfl sl22 (get_ltM hx0) rfl rfl rfl ?_
   refine s_loadF rfl rfl (rowG hx0) ty5 rfl (.inr rfl) (by conv => lhs; whnf) rfl rfl rfl ?_
   refine bnd1_elim h fun x3 q4 h => ?_
   have q4a := (idx_some q4).1; have q4b := (idx_some q4).2
   refine s_indexZ rfl rfl rfl rfl sl22 rfl q4a (get_lt q4b) rfl rfl rfl ?_
   refine s_storeL (x' := e0) rfl rfl rfl q4b ty5 rfl rfl rfl rfl rfl rfl ?_
   refine rt_nil ?_
   refine tri_region ?_
   refine m1 ?_
   refine s_inc (a := v0_1) (b := 1) rfl rfl rfl rfl (by have := get_lt hx0; have := hl0; omega) rfl rfl rfl ?_
   refine m2 ?_
   refine rt_nil ?_
   refine Exists.intro ⟨(rs0, v0_0.set ((v0_1 : Int).toNat) e0, (v0_1 + 1)), hn0, h⟩ (And.intro (Nat.lt_succ_self _) ?_)
   refine entX [((7, 0), ⟨5, 1, List.map byteV (v0_0.set ((v0_1 : Int).toNat) e0), false, true⟩, some (7, 0))] [] ⟨⟨rfl, _, rfl, rfl, rfl, rfl, id, rowsCv_eq rfl (allFree_map byteV_free), rowsZ_map byteV_len⟩, trivial⟩ trivial rfl rfl ?_
   exact ⟨(.free rfl), (cvRefLen rfl (by simp only [List.length_set])), (.free rfl), trivial⟩
  ·have he := drop_f hd0 c2; subst he
   rw [w_toByteS_l0] at h
   refine tri_exit ?_
   refine tri_sr ?_
   refine m1 ?_
   refine m2 ?_
   refine rt_nil ?_
   refine tri_ret ?_
   have e0 := (some1 h); subst e0
   exact endY (v' := .ref (2000, 0) 0 v0_0.length) [((2000, 0), ⟨5, 1, List.map byteV v0_0, false, true⟩, some (7, 0))] [] (rvC (resTmp rfl) rvN) ⟨⟨rfl, _, rfl, rfl, rfl, rfl, id, rowsCv_eq rfl (allFree_map byteV_free), rowsZ_map byteV_len⟩, trivial⟩ trivial rfl rfl (by kernel_rfl) (by simp only [V.mat, V.mat1, V.mat0, matL, matT, List.length_map] <;> rfl) (.ref rfl)

/- spec.Get2 -/
def inv_s_Get2_0 (p0 : List Int) (p1 : Int) (j0_0 : Bool) : St := mkT 28 [(0, .lst 1 (List.map byteV p0)), (1, .sc (.int .i64 p1)), (14, .sc (.bool j0_0))] []
set_option maxRecDepth 4000 in
set_option maxHeartbeats 800000 in
theorem ws_Get2 (p0 : List Int) (p1 : Int) (r0 : Int) (r1 : Bool) (h : s_Get2 p0 p1 = some (r0, r1)) : Runs Tryd.prog 17 [.lst 1 (List.map byteV p0), .sc (.int .i64 p1)] [] (.tup [.sc (.int .i64 r0), .sc (.bool r1)]) [] := by
 unfold s_Get2 at h
 refine runsR [.tmp 4, .tmp 5] Tryd.func17 rfl rfl rfl rfl ?_
 rw [Tryd.ntmps17]
 refine tri_sr ?_
 refine s_mv (.inr rfl) (v := .sc (.int .i64 0)) rfl rfl rfl rfl ?_
 refine s_mv (.inr rfl) (v := .sc (.bool false)) rfl rfl rfl rfl ?_
 refine rt_nil ?_
 refine tri_seq ?_
 refine tri_cutI (ι := { p : Bool // s_Get2_j0 p0 p1 p = some (r0, r1) }) (fun p => inv_s_Get2_0 p0 p1 p.1) ?_ ?_
 ·skip
  refine tri_region ?_
  refine m1 ?_
  refine s_of (st_lss rfl rfl rfl) rfl rfl rfl rfl ?_
  refine m1 ?_
  refine s_split (t := 8) rfl (fun b1 => ?_) (fun b1 => ?_)
  ·replace h := cond_t h b1
   refine s_skip rfl rfl rfl ?_
   refine s_skip rfl rfl rfl ?_
   refine s_skip rfl rfl rfl ?_
   refine s_skip rfl rfl rfl ?_
   refine s_skip rfl rfl rfl ?_
   refine s_pickT rfl rfl (v := .sc (.bool true)) rfl rfl rfl rfl ?_
   refine rt_nil ?_
   refine Exists.intro ⟨true, h⟩ ?_
   refine entX [] [] trivial trivial rfl rfl ?_
   exact ⟨(.free rfl), (.free rfl), (.free rfl), trivial⟩
  ·replace h := cond_f h b1
   refine m1 ?_
   refine m1 ?_
   refine s_lenL rfl sl22 rfl rfl rfl rfl ?_
   refine grd_elim h fun g2 h => ?_
   refine s_subI rfl rfl rfl rfl g2 rfl rfl rfl ?_
   refine s_of (st_gtr rfl rfl rfl) rfl rfl rfl rfl ?_
   refine s_pickF rfl rfl (by conv => lhs; whnf) rfl rfl rfl ?_
   refine rt_nil ?_
   refine Exists.intro ⟨decide ((p0.length : Int) - 2 < p1), h⟩ ?_
   refine entX [] [] trivial trivial rfl rfl ?_
   exact ⟨(.free rfl), (.free rfl), (.free rfl), trivial⟩
 ·rintro ⟨j0_0, h⟩
  replace h : s_Get2_j0 p0 p1 j0_0 = some (r0, r1) := h
  unfold s_Get2_j0 at h
  show Tri _ _ _ (inv_s_Get2_0 p0 p1 j0_0)
  refine tri_cond rfl (fun c1 => ?_) (fun c1 => ?_)
  ·replace h := cond_t h c1
   refine tri_sr ?_
   refine s_mv (.inr rfl) (v := .sc (.int .i64 0)) rfl rfl rfl rfl ?_
   refine s_mv (.inr rfl) (v := .sc (.bool false)) rfl rfl rfl rfl ?_
   refine rt_nil ?_
   refine tri_ret ?_
   have e0 := (some2 h).1; have e1 := (some2 h).2; subst e0; subst e1
   exact endY [] [] (rvC (resTmp rfl) (rvC (resTmp rfl) rvN)) trivial trivial rfl rfl rfl rfl (CvL.tup (.cons (.free rfl) (.cons (.free rfl) .nil)))
  ·replace h := cond_f h c1
   refine tri_skip ?_
   refine tri_seq ?_
   refine tri_draw mixed ?_
   refine m1 ?_
   refine m1 ?_
   refine bnd1_elim h fun x2 q3 h => ?_
   have q3a := (idx_some q3).1; have q3b := (idx_some q3).2
   refine s_indexFZ rfl rfl rfl sl22 q3a (get_ltM q3b) rfl rfl rfl ?_
   refine s_loadF rfl rfl (rowG q3b) ty5 rfl (.inr rfl) (by conv => lhs; whnf) rfl rfl rfl ?_
   refine s_of (st_conv ik5 ik3 rfl rfl) rfl rfl rfl rfl ?_
   refine s_of (st_shlD (b := 8) rfl rfl rfl) rfl rfl rfl rfl ?_
   refine m1 ?_
   refine m1 ?_
   refine grd_elim h fun g4 h => ?_
   refine s_addI rfl rfl rfl rfl g4 rfl rfl rfl ?_
   refine bnd1_elim h fun x5 q6 h => ?_
   have q6a := (idx_some q6).1; have q6b := (idx_some q6).2
   refine s_indexFZ rfl rfl rfl sl22 q6a (get_ltM q6b) rfl rfl rfl ?_
   refine s_loadF rfl rfl (rowG q6b) ty5 rfl (.inr rfl) (by conv => lhs; whnf) rfl rfl rfl ?_
   refine s_of (st_conv ik5 ik3 rfl rfl) rfl rfl rfl rfl ?_
   refine s_of (st_orD rfl rfl rfl) rfl rfl rfl rfl ?_
   refine m2 ?_
   refine s_mv (.inr rfl) (v := .sc (.bool true)) rfl rfl rfl rfl ?_
   refine rt_nil ⟨by kernel_rfl, ?_⟩
   refine tri_ret ?_
   have e0 := (some2 h).1; have e1 := (some2 h).2; subst e0; subst e1
   exact endY [] [] (rvC (resTmp rfl) (rvC (resTmp rfl) rvN)) trivial trivial rfl rfl rfl rfl (CvL.tup (.cons (.free rfl) (.cons (.free rfl) .nil)))

/- spec.GetHead -/
def inv_s_GetHead_0 (p0 : List Int) (j0_0 : Bool) : St := mkT 100 [(0, .lst 1 (List.map byteV p0)), (2, .ptr (2, 0) 0 0), (34, .sc (.bool j0_0))] [((2, 0), some ⟨33, 12, [[.sc (.int .i64 0), .sc (.bool false), .sc (.bool false), .sc (.bool false), .sc (.bool false), .sc (.bool false), .sc (.int .i64 0), .sc (.string (⟨#[]⟩ : ByteArray)), .sc (.int .i64 0), .nils, .nils, .nils]], false, true⟩)]
set_option maxRecDepth 4000 in
set_option maxHeartbeats 800000 in
theorem ws_GetHead (p0 : List Int) (r0 : MMsg) (r1 : Int) (r2 : Int) (r3 : Int) (r4 : Bool) (h : s_GetHead p0 = some (r0, r1, r2, r3, r4)) : Runs Tryd.prog 22 [.lst 1 (List.map byteV p0)] [] (.tup [.agg [.sc (.int .i64 r0.id), .sc (.bool r0.reply), .sc (.bool r0.auth), .sc (.bool r0.cut), .sc (.bool r0.want), .sc (.bool r0.can), .sc (.int .i64 r0.code), .sc (.string r0.q.name), .sc (.int .i64 r0.q.ty), .own 62 6 (List.map recV r0.an), .own 62 6 (List.map recV r0.au), .own 62 6 (List.map recV r0.ad)], .sc (.int .i64 r1), .sc (.int .i64 r2), .sc (.int .i64 r3), .sc (.bool r4)]) [] := by
 unfold s_GetHead at h
 refine runsR [.cell 2 33, .tmp 3, .tmp 4, .tmp 5, .tmp 6] Tryd.func22 rfl rfl rfl rfl ?_
 rw [Tryd.ntmps22]
 refine tri_sr ?_
 refine s_alloc rfl rfl rfl zc33 rfl rfl rfl rfl rfl ?_
 refine s_mv (.inr rfl) (v := .sc (.int .i64 0)) rfl rfl rfl rfl ?_
 refine s_mv (.inr rfl) (v := .sc (.int .i64 0)) rfl rfl rfl rfl ?_
 refine s_mv (.inr rfl) (v := .sc (.int .i64 0)) rfl rfl rfl rfl ?_
 refine s_mv (.inr rfl) (v := .sc (.bool false)) rfl rfl rfl rfl ?_
 refine rt_nil ?_
 refine tri_seq ?_
 refine tri_cutI (ι := { p : Bool // s_GetHead_j0 p0 p = some (r0, r1, r2, r3, r4) }) (fun p => inv_s_GetHead_0 p0 p.1) ?_ ?_
 ·skip
  refine tri_region ?_
  refine m1 ?_
  refine s_lenL rfl sl22 rfl rfl rfl rfl ?_
  refine s_of (st_lss rfl rfl rfl) rfl rfl rfl rfl ?_
  refine m1 ?_
  refine s_split (t := 21) rfl (fun b1 => ?_) (fun b1 => ?_)
  ·replace h := cond_t h b1
   refine s_skip rfl rfl rfl ?_
   refine s_skip rfl rfl rfl ?_
   refine s_skip rfl rfl rfl ?_
   refine s_skip rfl rfl rfl ?_
   refine s_skip rfl rfl rfl ?_
   refine s_pickT rfl rfl (v := .sc (.bool true)) rfl rfl rfl rfl ?_
   refine m1 ?_
   refine s_skip rfl rfl rfl ?_
   refine s_skip rfl rfl rfl ?_
   refine s_skip rfl rfl rfl ?_
   refine s_skip rfl rfl rfl ?_
   refine s_skip rfl rfl rfl ?_
   refine s_pickT rfl rfl (v := .sc (.bool true)) rfl rfl rfl rfl ?_
   refine rt_nil ?_
   refine Exists.intro ⟨true, h⟩ ?_
   refine entX [((2, 0), ⟨33, 12, [[.sc (.int .i64 0), .sc (.bool false), .sc (.bool false), .sc (.bool false), .sc (.bool false), .sc (.bool false), .sc (.int .i64 0), .sc (.string (⟨#[]⟩ : ByteArray)), .sc (.int .i64 0), .nils, .nils, .nils]], false, true⟩, some (2, 0))] [] ⟨⟨rfl, _, rfl, rfl, rfl, rfl, id, rowsCv_one (.cons (.free rfl) (.cons (.free rfl) (.cons (.free rfl) (.cons (.free rfl) (.cons (.free rfl) (.cons (.free rfl) (.cons (.free rfl) (.cons (.free rfl) (.cons (.free rfl) (.cons (.free rfl) (.cons (.free rfl) (.cons (.free rfl) .nil)))))))))))), rowsZ_one rfl⟩, trivial⟩ trivial rfl rfl ?_
   exact ⟨(.free rfl), (.ptr rfl), (.free rfl), trivial⟩
  ·replace h := cond_f h b1
   refine m1 ?_
   refine bnd1_elim h fun x2 q3 h => ?_
   have q3a := (idx_some q3).1; have q3b := (idx_some q3).2
   refine s_indexFZ rfl rfl rfl sl22 q3a (get_ltM q3b) rfl rfl rfl ?_
   refine s_loadF rfl rfl (rowG q3b) ty5 rfl (.inr rfl) (by conv => lhs; whnf) rfl rfl rfl ?_
   refine s_of (st_andD rfl rfl rfl) rfl rfl rfl rfl ?_
   refine s_of (st_neI rfl rfl rfl) rfl rfl rfl rfl ?_
   refine s_pickF rfl rfl (by conv => lhs; whnf) rfl rfl rfl ?_
   refine m1 ?_
   refine s_split (t := 28) rfl (fun b4 => ?_) (fun b4 => ?_)
   ·replace h := cond_t h b4
    refine s_skip rfl rfl rfl ?_
    refine s_skip rfl rfl rfl ?_
    refine s_skip rfl rfl rfl ?_
    refine s_skip rfl rfl rfl ?_
    refine s_skip rfl rfl rfl ?_
    refine s_pickT rfl rfl (v := .sc (.bool true)) rfl rfl rfl rfl ?_
    refine rt_nil ?_
    refine Exists.intro ⟨true, h⟩ ?_
    refine entX [((2, 0), ⟨33, 12, [[.sc (.int .i64 0), .sc (.bool false), .sc (.bool false), .sc (.bool false), .sc (.bool false), .sc (.bool false), .sc (.int .i64 0), .sc (.string (⟨#[]⟩ : ByteArray)), .sc (.int .i64 0), .nils, .nils, .nils]], false, true⟩, some (2, 0))] [] ⟨⟨rfl, _, rfl, rfl, rfl, rfl, id, rowsCv_one (.cons (.free rfl) (.cons (.free rfl) (.cons (.free rfl) (.cons (.free rfl) (.cons (.free rfl) (.cons (.free rfl) (.cons (.free rfl) (.cons (.free rfl) (.cons (.free rfl) (.cons (.free rfl) (.cons (.free rfl) (.cons (.free rfl) .nil)))))))))))), rowsZ_one rfl⟩, trivial⟩ trivial rfl rfl ?_
    exact ⟨(.free rfl), (.ptr rfl), (.free rfl), trivial⟩
   ·replace h := cond_f h b4
    refine m1 ?_
    refine bnd1_elim h fun x5 q6 h => ?_
    have q6a := (idx_some q6).1; have q6b := (idx_some q6).2
    refine s_indexFZ rfl rfl rfl sl22 q6a (get_ltM q6b) rfl rfl rfl ?_
    refine s_loadF rfl rfl (rowG q6b) ty5 rfl (.inr rfl) (by conv => lhs; whnf) rfl rfl rfl ?_
    refine s_of (st_andD rfl rfl rfl) rfl rfl rfl rfl ?_
    refine s_of (st_neI rfl rfl rfl) rfl rfl rfl rfl ?_
    refine s_pickF rfl rfl (by conv => lhs; whnf) rfl rfl rfl ?_
    refine rt_nil ?_
    refine Exists.intro ⟨!decide (iand .u8 x5 112 = 0), h⟩ ?_
    refine entX [((2, 0), ⟨33, 12, [[.sc (.int .i64 0), .sc (.bool false), .sc (.bool false), .sc (.bool false), .sc (.bool false), .sc (.bool false), .sc (.int .i64 0), .sc (.string (⟨#[]⟩ : ByteArray)), .sc (.int .i64 0), .nils, .nils, .nils]], false, true⟩, some (2, 0))] [] ⟨⟨rfl, _, rfl, rfl, rfl, rfl, id, rowsCv_one (.cons (.free rfl) (.cons (.free rfl) (.cons (.free rfl) (.cons (.free rfl) (.cons (.free rfl) (.cons (.free rfl) (.cons (.free rfl) (.cons (.free rfl) (.cons (.free rfl) (.cons (.free rfl) (.cons (.free rfl) (.cons (.free rfl) .nil)))))))))))), rowsZ_one rfl⟩, trivial⟩ trivial rfl rfl ?_
    exact ⟨(.free rfl), (.ptr rfl), (.free rfl), trivial⟩
 ·rintro ⟨j0_0, h⟩
  replace h : s_GetHead_j0 p0 j0_0 = some (r0, r1, r2, r3, r4) := h
  unfold s_GetHead_j0 at h
  show Tri _ _ _ (inv_s_GetHead_0 p0 j0_0)
  refine tri_cond rfl (fun c1 => ?_) (fun c1 => ?_)
  ·replace h := cond_t h c1
   refine tri_sr ?_
   refine s_build (cells' := [.sc (.int .i64 0), .sc (.bool false), .sc (.bool false), .sc (.bool false), .sc (.bool false), .sc (.bool false), .sc (.int .i64 0), .sc (.string (⟨#[]⟩ : ByteArray)), .sc (.int .i64 0), .nils, .nils, .nils]) rfl stc33 rfl rfl rfl rfl rfl rfl rfl ?_
   refine s_storeB rfl rfl rfl ty33 rfl rfl rfl rfl rfl ?_
   refine s_mv (.inr rfl) (v := .sc (.int .i64 0)) rfl rfl rfl rfl ?_
   refine s_mv (.inr rfl) (v := .sc (.int .i64 0)) rfl rfl rfl rfl ?_
   refine s_mv (.inr rfl) (v := .sc (.int .i64 0)) rfl rfl rfl rfl ?_
   refine s_mv (.inr rfl) (v := .sc (.bool false)) rfl rfl rfl rfl ?_
   refine rt_nil ?_
   refine tri_ret ?_
   have e0 := (some5 h).1; have e1 := (some5 h).2.1; have e2 := (some5 h).2.2.1; have e3 := (some5 h).2.2.2.1; have e4 := (some5 h).2.2.2.2; subst e0; subst e1; subst e2; subst e3; subst e4
   exact endY (v' := .tup [.agg [.sc (.int .i64 0), .sc (.bool false), .sc (.bool false), .sc (.bool false), .sc (.bool false), .sc (.bool false), .sc (.int .i64 0), .sc (.string (⟨#[]⟩ : ByteArray)), .sc (.int .i64 0), .ref (2000, 109) 0 (([] : List Rec).length), .ref (2000, 110) 0 (([] : List Rec).length), .ref (2000, 111) 0 (([] : List Rec).length)], .sc (.int .i64 0), .sc (.int .i64 0), .sc (.int .i64 0), .sc (.bool false)]) [((2000, 109), ⟨62, 6, List.map recV ([] : List Rec), false, true⟩, none), ((2000, 110), ⟨62, 6, List.map recV ([] : List Rec), false, true⟩, none), ((2000, 111), ⟨62, 6, List.map recV ([] : List Rec), false, true⟩, none)] [] (rvC (resCell rfl rfl ty33) (rvC (resTmp rfl) (rvC (resTmp rfl) (rvC (resTmp rfl) (rvC (resTmp rfl) rvN))))) ⟨rfl, rfl, rfl, trivial⟩ trivial rfl rfl (by kernel_rfl) (by simp only [V.mat, V.mat1, V.mat0, matL, matT, List.length_map] <;> rfl) (CvL.tup (.cons (CvL.agg (.cons (.free rfl) (.cons (.free rfl) (.cons (.free rfl) (.cons (.free rfl) (.cons (.free rfl) (.cons (.free rfl) (.cons (.free rfl) (.cons (.free rfl) (.cons (.free rfl) (.cons (.nilRef rfl) (.cons (.nilRef rfl) (.cons (.nilRef rfl) .nil))))))))))))) (.cons (.free rfl) (.cons (.free rfl) (.cons (.free rfl) (.cons (.free rfl) .nil))))))
  ·replace h := cond_f h c1
   refine tri_skip ?_
   refine tri_sr ?_
   refine m1 ?_
   refine bnd2_elim h fun x2 x3 q4 h => ?_
   refine s_callN (kb := []) (ns := []) (v := .tup [.sc (.int .i64 x2), .sc (.bool x3)]) rfl rfl cl17 (ws_Get2 p0 0 x2 x3 q4) rfl (.cons (.free rfl) (.cons (.free rfl) .nil)) trivial memNil .nil memNil rfl trivial memNil rfl rfl rfl rfl rfl rfl ?_
   refine m1 ?_
   refine s_extract rfl rfl rfl rfl rfl rfl ?_
   refine s_extract rfl rfl rfl rfl rfl rfl ?_
   refine m2 ?_
   refine m2 ?_
   refine rt_nil ?_
   refine tri_sr ?_
   refine m1 ?_
   refine bnd2_elim h fun x5 x6 q7 h => ?_
   refine s_callN (kb := []) (ns := []) (v := .tup [.sc (.int .i64 x5), .sc (.bool x6)]) rfl rfl cl17 (ws_Get2 p0 4 x5 x6 q7) rfl (.cons (.free rfl) (.cons (.free rfl) .nil)) trivial memNil .nil memNil rfl trivial memNil rfl rfl rfl rfl rfl rfl ?_
   refine m1 ?_
   refine s_extract rfl rfl rfl rfl rfl rfl ?_
   refine s_extract rfl rfl rfl rfl rfl rfl ?_
   refine m2 ?_
   refine m2 ?_
   refine rt_nil ?_
   refine tri_sr ?_
   refine m1 ?_
   refine bnd2_elim h fun x8 x9 q10 h => ?_
   refine s_callN (kb := []) (ns := []) (v := .tup [.sc (.int .i64 x8), .sc (.bool x9)]) rfl rfl cl17 (ws_Get2 p0 6 x8 x9 q10) rfl (.cons (.free rfl) (.cons (.free rfl) .nil)) trivial memNil .nil memNil rfl trivial memNil rfl rfl rfl rfl rfl rfl ?_
   refine m1 ?_
   refine s_extract rfl rfl rfl rfl rfl rfl ?_
   refine s_extract rfl rfl rfl rfl rfl rfl ?_
   refine m2 ?_
   refine m2 ?_
   refine rt_nil ?_
   refine tri_sr ?_
   refine m1 ?_
   refine bnd2_elim h fun x11 x12 q13 h => ?_
   refine s_callN (kb := []) (ns := []) (v := .tup [.sc (.int .i64 x11), .sc (.bool x12)]) rfl rfl cl17 (ws_Get2 p0 8 x11 x12 q13) rfl (.cons (.free rfl) (.cons (.free rfl) .nil)) trivial memNil .nil memNil rfl trivial memNil rfl rfl rfl rfl rfl rfl ?_
   refine m1 ?_
   refine s_extract rfl rfl rfl rfl rfl rfl ?_
   refine s_extract rfl rfl rfl rfl rfl rfl ?_
   refine m2 ?_
   refine m2 ?_
   refine rt_nil ?_
   refine tri_sr ?_
   refine m1 ?_
   refine bnd2_elim h fun x14 x15 q16 h => ?_
   refine s_callN (kb := []) (ns := []) (v := .tup [.sc (.int .i64 x14), .sc (.bool x15)]) rfl rfl cl17 (ws_Get2 p0 10 x14 x15 q16) rfl (.cons (.free rfl) (.cons (.free rfl) .nil)) trivial memNil .nil memNil rfl trivial memNil rfl rfl rfl rfl rfl rfl ?_
   refine m1 ?_
   refine s_extract rfl rfl rfl rfl rfl rfl ?_
   refine s_extract rfl rfl rfl rfl rfl rfl ?_
   refine m2 ?_
   refine m2 ?_
   refine rt_nil ?_
   refine tri_seq ?_
   refine tri_sr ?_
   refine m1 ?_
   refine s_of (st_neI rfl rfl rfl) rfl rfl rfl rfl ?_
   refine rt_nil ?_
   refine tri_cond rfl (fun c17 => ?_) (fun c17 => ?_)
   ·replace h := cond_t h c17
    refine tri_sr ?_
    refine s_build (cells' := [.sc (.int .i64 0), .sc (.bool false), .sc (.bool false), .sc (.bool false), .sc (.bool false), .sc (.bool false), .sc (.int .i64 0), .sc (.string (⟨#[]⟩ : ByteArray)), .sc (.int .i64 0), .nils, .nils, .nils]) rfl stc33 rfl rfl rfl rfl rfl rfl rfl ?_
    refine s_storeB rfl rfl rfl ty33 rfl rfl rfl rfl rfl ?_
    refine s_mv (.inr rfl) (v := .sc (.int .i64 0)) rfl rfl rfl rfl ?_
    refine s_mv (.inr rfl) (v := .sc (.int .i64 0)) rfl rfl rfl rfl ?_
    refine s_mv (.inr rfl) (v := .sc (.int .i64 0)) rfl rfl rfl rfl ?_
    refine s_mv (.inr rfl) (v := .sc (.bool false)) rfl rfl rfl rfl ?_
    refine rt_nil ?_
    refine tri_ret ?_
    have e0 := (some5 h).1; have e1 := (some5 h).2.1; have e2 := (some5 h).2.2.1; have e3 := (some5 h).2.2.2.1; have e4 := (some5 h).2.2.2.2; subst e0; subst e1; subst e2; subst e3; subst e4
    exact endY (v' := .tup [.agg [.sc (.int .i64 0), .sc (.bool false), .sc (.bool false), .sc (.bool false), .sc (.bool false), .sc (.bool false), .sc (.int .i64 0), .sc (.string (⟨#[]⟩ : ByteArray)), .sc (.int .i64 0), .ref (2000, 109) 0 (([] : List Rec).length), .ref (2000, 110) 0 (([] : List Rec).length), .ref (2000, 111) 0 (([] : List Rec).length)], .sc (.int .i64 0), .sc (.int .i64 0), .sc (.int .i64 0), .sc (.bool false)]) [((2000, 109), ⟨62, 6, List.map recV ([] : List Rec), false, true⟩, none), ((2000, 110), ⟨62, 6, List.map recV ([] : List Rec), false, true⟩, none), ((2000, 111), ⟨62, 6, List.map recV ([] : List Rec), false, true⟩, none)] [] (rvC (resCell rfl rfl ty33) (rvC (resTmp rfl) (rvC (resTmp rfl) (rvC (resTmp rfl) (rvC (resTmp rfl) rvN))))) ⟨rfl, rfl, rfl, trivial⟩ trivial rfl rfl (by kernel_rfl) (by simp only [V.mat, V.mat1, V.mat0, matL, matT, List.length_map] <;> rfl) (CvL.tup (.cons (CvL.agg (.cons (.free rfl) (.cons (.free rfl) (.cons (.free rfl) (.cons (.free rfl) (.cons (.free rfl) (.cons (.free rfl) (.cons (.free rfl) (.cons (.free rfl) (.cons (.free rfl) (.cons (.nilRef rfl) (.cons (.nilRef rfl) (.cons (.nilRef rfl) .nil))))))))))))) (.cons (.free rfl) (.cons (.free rfl) (.cons (.free rfl) (.cons (.free rfl) .nil))))))
   ·replace h := cond_f h c17
    refine tri_skip ?_
    refine tri_seq ?_
    refine tri_draw mixed ?_
    refine m1 ?_
    refine m1 ?_
    refine bnd1_elim h fun x18 q19 h => ?_
    have q19a := (idx_some q19).1; have q19b := (idx_some q19).2
    refine s_indexFZ rfl rfl rfl sl22 q19a (get_ltM q19b) rfl rfl rfl ?_
    refine s_loadF rfl rfl (rowG q19b) ty5 rfl (.inr rfl) (by conv => lhs; whnf) rfl rfl rfl ?_
    refine s_of (st_andD rfl rfl rfl) rfl rfl rfl rfl ?_
    refine s_of (st_neI rfl rfl rfl) rfl rfl rfl rfl ?_
    refine m1 ?_
    refine s_indexFZ rfl rfl rfl sl22 q19a (get_ltM q19b) rfl rfl rfl ?_
    refine s_loadF rfl rfl (rowG q19b) ty5 rfl (.inr rfl) (by conv => lhs; whnf) rfl rfl rfl ?_
    refine s_of (st_andD rfl rfl rfl) rfl rfl rfl rfl ?_
    refine s_of (st_neI rfl rfl rfl) rfl rfl rfl rfl ?_
    refine m1 ?_
    refine s_indexFZ rfl rfl rfl sl22 q19a (get_ltM q19b) rfl rfl rfl ?_
    refine s_loadF rfl rfl (rowG q19b) ty5 rfl (.inr rfl) (by conv => lhs; whnf) rfl rfl rfl ?_
    refine s_of (st_andD rfl rfl rfl) rfl rfl rfl rfl ?_
    refine s_of (st_neI rfl rfl rfl) rfl rfl rfl rfl ?_
    refine m1 ?_
    refine s_indexFZ rfl rfl rfl sl22 q19a (get_ltM q19b) rfl rfl rfl ?_
    refine s_loadF rfl rfl (rowG q19b) ty5 rfl (.inr rfl) (by conv => lhs; whnf) rfl rfl rfl ?_
    refine s_of (st_andD rfl rfl rfl) rfl rfl rfl rfl ?_
    refine s_of (st_neI rfl rfl rfl) rfl rfl rfl rfl ?_
    refine m1 ?_
    refine bnd1_elim h fun x20 q21 h => ?_
    have q21a := (idx_some q21).1; have q21b := (idx_some q21).2
    refine s_indexFZ rfl rfl rfl sl22 q21a (get_ltM q21b) rfl rfl rfl ?_
    refine s_loadF rfl rfl (rowG q21b) ty5 rfl (.inr rfl) (by conv => lhs; whnf) rfl rfl rfl ?_
    refine s_of (st_andD rfl rfl rfl) rfl rfl rfl rfl ?_
    refine s_of (st_neI rfl rfl rfl) rfl rfl rfl rfl ?_
    refine m1 ?_
    refine s_indexFZ rfl rfl rfl sl22 q21a (get_ltM q21b) rfl rfl rfl ?_
    refine s_loadF rfl rfl (rowG q21b) ty5 rfl (.inr rfl) (by conv => lhs; whnf) rfl rfl rfl ?_
    refine s_of (st_andD rfl rfl rfl) rfl rfl rfl rfl ?_
    refine s_of (st_conv ik5 ik3 rfl rfl) rfl rfl rfl rfl ?_
    refine s_build (cells' := [.sc (.int .i64 x2), .sc (.bool (!decide (iand .u8 x18 128 = 0))), .sc (.bool (!decide (iand .u8 x18 4 = 0))), .sc (.bool (!decide (iand .u8 x18 2 = 0))), .sc (.bool (!decide (iand .u8 x18 1 = 0))), .sc (.bool (!decide (iand .u8 x20 128 = 0))), .sc (.int .i64 (IntKind.i64.wrap (iand .u8 x20 15))), .sc (.string (⟨#[]⟩ : ByteArray)), .sc (.int .i64 0), .nils, .nils, .nils]) rfl stc33 rfl rfl rfl (by kernel_rfl) rfl rfl rfl ?_
    refine s_alloc rfl rfl rfl zc33 rfl rfl rfl rfl rfl ?_
    refine s_storeB rfl rfl rfl ty33 rfl rfl rfl rfl rfl ?_
    refine rt_nil ⟨drawFast (by kernel_rfl), ?_⟩
    refine tri_sr ?_
    refine s_loadR rfl rfl rfl rfl ty33 rfl rfl rfl ?_
    refine m1 ?_
    refine m1 ?_
    refine m1 ?_
    refine s_storeB rfl rfl rfl ty33 rfl rfl rfl rfl rfl ?_
    refine m2 ?_
    refine m2 ?_
    refine m2 ?_
    refine s_mv (.inr rfl) (v := .sc (.bool true)) rfl rfl rfl rfl ?_
    refine rt_nil ?_
    refine tri_ret ?_
    have e0 := (some5 h).1; have e1 := (some5 h).2.1; have e2 := (some5 h).2.2.1; have e3 := (some5 h).2.2.2.1; have e4 := (some5 h).2.2.2.2; subst e0; subst e1; subst e2; subst e3; subst e4
    exact endY (v' := .tup [.agg [.sc (.int .i64 x2), .sc (.bool (!decide (iand .u8 x18 128 = 0))), .sc (.bool (!decide (iand .u8 x18 4 = 0))), .sc (.bool (!decide (iand .u8 x18 2 = 0))), .sc (.bool (!decide (iand .u8 x18 1 = 0))), .sc (.bool (!decide (iand .u8 x20 128 = 0))), .sc (.int .i64 (IntKind.i64.wrap (iand .u8 x20 15))), .sc (.string (⟨#[]⟩ : ByteArray)), .sc (.int .i64 0), .ref (2000, 109) 0 (([] : List Rec).length), .ref (2000, 110) 0 (([] : List Rec).length), .ref (2000, 111) 0 (([] : List Rec).length)], .sc (.int .i64 x8), .sc (.int .i64 x11), .sc (.int .i64 x14), .sc (.bool true)]) [((2000, 109), ⟨62, 6, List.map recV ([] : List Rec), false, true⟩, none), ((2000, 110), ⟨62, 6, List.map recV ([] : List Rec), false, true⟩, none), ((2000, 111), ⟨62, 6, List.map recV ([] : List Rec), false, true⟩, none)] [] (rvC (resCell rfl rfl ty33) (rvC (resTmp rfl) (rvC (resTmp rfl) (rvC (resTmp rfl) (rvC (resTmp rfl) rvN))))) ⟨rfl, rfl, rfl, trivial⟩ trivial rfl rfl (by kernel_rfl) (by simp only [V.mat, V.mat1, V.mat0, matL, matT, List.length_map] <;> rfl) (CvL.tup (.cons (CvL.agg (.cons (.free rfl) (.cons (.free rfl) (.cons (.free rfl) (.cons (.free rfl) (.cons (.free rfl) (.cons (.free rfl) (.cons (.free rfl) (.cons (.free rfl) (.cons (.free rfl) (.cons (.nilRef rfl) (.cons (.nilRef rfl) (.cons (.nilRef rfl) .nil))))))))))))) (.cons (.free rfl) (.cons (.free rfl) (.cons (.free rfl) (.cons (.free rfl) .nil))))))

/- spec.l1In -/

set_option maxRecDepth 4000 in
set_option maxHeartbeats 800000 in
theorem ws_l1In (p0 : Int) (p1 : Int) (p2 : Int) (r0 : Bool) (h : s_l1In p0 p1 p2 = some r0) : Runs Tryd.prog 36 [.sc (.int .i64 p0), .sc (.int .i64 p1), .sc (.int .i64 p2)] [] (.sc (.bool r0)) [] := by
 unfold s_l1In at h
 refine runsR [.tmp 6] Tryd.func36 rfl rfl rfl rfl ?_
 rw [Tryd.ntmps36]
 refine tri_sr ?_
 refine s_mv (.inr rfl) (v := .sc (.bool false)) rfl rfl rfl rfl ?_
 refine rt_nil ?_
 refine tri_sr ?_
 refine m1 ?_
 refine m1 ?_
 refine s_of (st_geq rfl rfl rfl) rfl rfl rfl rfl ?_
 refine m1 ?_
 refine s_split (t := 10) rfl (fun b1 => ?_) (fun b1 => ?_)
 ·replace h := cond_t h b1
  refine m1 ?_
  refine m1 ?_
  refine s_of (st_leq rfl rfl rfl) rfl rfl rfl rfl ?_
  refine s_pickT rfl rfl (by conv => lhs; whnf) rfl rfl rfl ?_
  refine m2 ?_
  refine rt_nil ?_
  refine tri_ret ?_
  have e0 := (some1 h); subst e0
  exact endY [] [] (rvC (resTmp rfl) rvN) trivial trivial rfl rfl rfl rfl (.free rfl)
 ·replace h := cond_f h b1
  refine s_skip rfl rfl rfl ?_
  refine s_skip rfl rfl rfl ?_
  refine s_skip rfl rfl rfl ?_
  refine s_pickF rfl rfl (v := .sc (.bool false)) rfl rfl rfl rfl ?_
  refine m2 ?_
  refine rt_nil ?_
  refine tri_ret ?_
  have e0 := (some1 h); subst e0
  exact endY [] [] (rvC (resTmp rfl) rvN) trivial trivial rfl rfl rfl rfl (.free rfl)

/- spec.Fold -/
def inv_s_Fold_1  (v1_0 : List Int) (v1_1 : Int) : St := mkT 29 [(3, .ref (6, 0) 0 v1_0.length), (4, .sc (.int .i64 v1_1))] [((6, 0), some ⟨5, 1, List.map byteV v1_0, true, true⟩)]
def inv_s_Fold_0  (j0_0 : List Int) : St := mkT 29 [(3, .ref (6, 0) 0 j0_0.length)] [((6, 0), some ⟨5, 1, List.map byteV j0_0, true, true⟩)]
set_option maxRecDepth 4000 in
set_option maxHeartbeats 800000 in
theorem ws_Fold (p0 : ByteArray) (r0 : ByteArray) (h : s_Fold p0 = some r0) : Runs Tryd.prog 57 [.sc (.string p0)] [] (.sc (.string r0)) [] := by
 unfold s_Fold at h
 refine runsR [.tmp 2] Tryd.func57 rfl rfl rfl rfl ?_
 rw [Tryd.ntmps57]
 refine tri_sr ?_
 refine s_mv (.inr rfl) (v := .sc (.string (⟨#[]⟩ : ByteArray))) rfl rfl rfl rfl ?_
 refine rt_nil ?_
 refine tri_sr ?_
 refine m1 ?_
 refine grd_elim h fun g1 h => ?_
 refine s_toBytesL rfl rfl rfl rfl iss9 byt22 g1 rfl rfl ?_
 refine m2 ?_
 refine rt_nil ?_
 refine tri_cutI (ι := { p : (List Int) // s_Fold_j0 p = some r0 }) (fun p => inv_s_Fold_0 p.1) ?_ ?_
 ·skip
  refine tri_sr ?_
  refine s_mv (.inr rfl) (v := .sc (.int .i64 0)) rfl rfl rfl rfl ?_
  refine rt_nil ?_
  refine tri_block ?_
  refine tri_loop (ι := { p : Nat × (List Int) × Int // s_Fold_l1 p.1 p.2.1 p.2.2 = some r0 }) (fun p => inv_s_Fold_1 p.1.2.1 p.1.2.2) (fun p => p.1.1) ⟨(fuel0, bytesOf p0, 0), h⟩ ?_ ?_
  ·skip
   refine entX [((6, 0), ⟨5, 1, List.map byteV (bytesOf p0), true, true⟩, some (6, 0))] [] ⟨⟨rfl, _, rfl, rfl, rfl, rfl, id, rowsCv_eq rfl (allFree_map byteV_free), rowsZ_map byteV_len⟩, trivial⟩ trivial rfl rfl ?_
   exact ⟨(.ref rfl), (.free rfl), trivial⟩
  ·rintro ⟨⟨f1, v1_0, v1_1⟩, h⟩
   replace h : s_Fold_l1 f1 v1_0 v1_1 = some r0 := h
   cases f1 with
   | zero => cases h
   | succ f1 =>
   rw [s_Fold_l1] at h
   show Tri _ _ _ (inv_s_Fold_1 v1_0 v1_1)
   refine tri_seq ?_
   refine tri_sr ?_
   refine m1 ?_
   refine m1 ?_
   refine s_len (m := v1_0.length) rfl sl22 rfl rfl rfl rfl ?_
   refine s_of (st_lss rfl rfl rfl) rfl rfl rfl rfl ?_
   refine rt_nil ?_
   refine tri_cond rfl (fun c2 => ?_) (fun c2 => ?_)
   ·replace h := cond_t h c2
    refine tri_skip ?_
    refine tri_seq ?_
    refine tri_block ?_
    refine tri_sr ?_
    refine m1 ?_
    refine m1 ?_
    refine bnd1_elim h fun x3 q4 h => ?_
    have q4a := (idx_some q4).1; have q4b := (idx_some q4).2
    refine s_indexZ rfl rfl rfl rfl sl22 rfl q4a (get_lt q4b) rfl rfl rfl ?_
    refine s_load rfl rfl rfl (rowG q4b) ty5 rfl (.inr rfl) (by conv => lhs; whnf) rfl rfl rfl ?_
    refine s_of (st_conv ik5 ik3 rfl rfl) rfl rfl rfl rfl ?_
    refine bnd1_elim h fun x5 q6 h => ?_
    refine s_callN (kb := []) (ns := []) (v := .sc (.bool x5)) rfl rfl cl36 (ws_l1In (IntKind.i64.wrap x3) 65 90 x5 q6) rfl (.cons (.free rfl) (.cons (.free rfl) (.cons (.free rfl) .nil))) trivial memNil .nil memNil rfl trivial memNil rfl rfl rfl rfl rfl rfl ?_
    refine rt_nil ?_
    refine tri_cond rfl (fun c7 => ?_) (fun c7 => ?_)
    ·replace h := cond_t h c7
     refine tri_region ?_
     refine m1 ?_
     refine m1 ?_
     refine m1 ?_
     refine m1 ?_
     refine s_indexZ rfl rfl rfl rfl sl22 rfl q4a (get_lt q4b) rfl rfl rfl ?_
     refine s_load rfl rfl rfl (rowG q4b) ty5 rfl (.inr rfl) (by conv => lhs; whnf) rfl rfl rfl ?_
     refine s_of (st_add rfl rfl rfl) rfl rfl rfl rfl ?_
     refine s_indexZ rfl rfl rfl rfl sl22 rfl q4a (get_lt q4b) rfl rfl rfl ?_
     refine s_storeL (x' := IntKind.u8.wrap (x3 + 32)) rfl rfl rfl q4b ty5 rfl rfl rfl rfl rfl rfl ?_
     refine rt_nil ?_
     refine tri_region ?_
     refine m1 ?_
     refine grd_elim h fun g8 h => ?_
     refine s_addI rfl rfl rfl rfl g8 rfl rfl rfl ?_
     refine m2 ?_
     refine rt_nil ?_
     refine Exists.intro ⟨(f1, v1_0.set v1_1.toNat (IntKind.u8.wrap (x3 + 32)), v1_1 + 1), h⟩ (And.intro (Nat.lt_succ_self _) ?_)
     refine entX [((6, 0), ⟨5, 1, List.map byteV (v1_0.set v1_1.toNat (IntKind.u8.wrap (x3 + 32))), true, true⟩, some (6, 0))] [] ⟨⟨rfl, _, rfl, rfl, rfl, rfl, id, rowsCv_eq rfl (allFree_map byteV_free), rowsZ_map byteV_len⟩, trivial⟩ trivial rfl rfl ?_
     exact ⟨(cvRefLen rfl (by simp only [List.length_set])), (.free rfl), trivial⟩
    ·replace h := cond_f h c7
     refine tri_skip ?_
     refine tri_region ?_
     refine m1 ?_
     refine grd_elim h fun g9 h => ?_
     refine s_addI rfl rfl rfl rfl g9 rfl rfl rfl ?_
     refine m2 ?_
     refine rt_nil ?_
     refine Exists.intro ⟨(f1, v1_0, v1_1 + 1), h⟩ (And.intro (Nat.lt_succ_self _) ?_)
     refine entX [((6, 0), ⟨5, 1, List.map byteV v1_0, true, true⟩, some (6, 0))] [] ⟨⟨rfl, _, rfl, rfl, rfl, rfl, id, rowsCv_eq rfl (allFree_map byteV_free), rowsZ_map byteV_len⟩, trivial⟩ trivial rfl rfl ?_
     exact ⟨(.ref rfl), (.free rfl), trivial⟩
   ·replace h := cond_f h c2
    refine tri_exit ?_
    refine Exists.intro ⟨v1_0, h⟩ ?_
    refine entX [((6, 0), ⟨5, 1, List.map byteV v1_0, true, true⟩, some (6, 0))] [] ⟨⟨rfl, _, rfl, rfl, rfl, rfl, id, rowsCv_eq rfl (allFree_map byteV_free), rowsZ_map byteV_len⟩, trivial⟩ trivial rfl rfl ?_
    exact ⟨(.ref rfl), trivial⟩
 ·rintro ⟨j0_0, h⟩
  replace h : s_Fold_j0 j0_0 = some r0 := h
  unfold s_Fold_j0 at h
  show Tri _ _ _ (inv_s_Fold_0 j0_0)
  refine tri_sr ?_
  refine m1 ?_
  refine s_toString rfl (src_refL rfl rfl) byt22 iss9 rfl rfl rfl rfl ?_
  refine m2 ?_
  refine rt_nil ?_
  refine tri_ret ?_
  have e0 := (some1 h); subst e0
  exact endY [] [] (rvC (resTmp rfl) rvN) trivial trivial rfl rfl rfl rfl (.free rfl)

/- spec.l2Byte -/

set_option maxRecDepth 4000 in
set_option maxHeartbeats 800000 in
theorem ws_l2Byte (p0 : Int) (r0 : Bool) (h : s_l2Byte p0 = some r0) : Runs Tryd.prog 58 [.sc (.int .u8 p0)] [] (.sc (.bool r0)) [] := by
 unfold s_l2Byte at h
 refine runsR [.tmp 2] Tryd.func58 rfl rfl rfl rfl ?_
 rw [Tryd.ntmps58]
 refine tri_sr ?_
 refine s_mv (.inr rfl) (v := .sc (.bool false)) rfl rfl rfl rfl ?_
 refine rt_nil ?_
 refine tri_sr ?_
 refine m1 ?_
 refine s_of (st_conv ik5 ik3 rfl rfl) rfl rfl rfl rfl ?_
 refine bnd1_elim h fun x1 q2 h => ?_
 refine s_callN (kb := []) (ns := []) (v := .sc (.bool x1)) rfl rfl cl36 (ws_l1In (IntKind.i64.wrap p0) 97 122 x1 q2) rfl (.cons (.free rfl) (.cons (.free rfl) (.cons (.free rfl) .nil))) trivial memNil .nil memNil rfl trivial memNil rfl rfl rfl rfl rfl rfl ?_
 refine m1 ?_
 refine s_split (t := 6) rfl (fun b3 => ?_) (fun b3 => ?_)
 ·replace h := cond_t h b3
  refine s_skip rfl rfl rfl ?_
  refine s_skip rfl rfl rfl ?_
  refine s_skip rfl rfl rfl ?_
  refine s_pickT rfl rfl (v := .sc (.bool true)) rfl rfl rfl rfl ?_
  refine m1 ?_
  refine s_skip rfl rfl rfl ?_
  refine s_skip rfl rfl rfl ?_
  refine s_pickT rfl rfl (v := .sc (.bool true)) rfl rfl rfl rfl ?_
  refine m1 ?_
  refine s_skip rfl rfl rfl ?_
  refine s_skip rfl rfl rfl ?_
  refine s_pickT rfl rfl (v := .sc (.bool true)) rfl rfl rfl rfl ?_
  refine m2 ?_
  refine rt_nil ?_
  refine tri_ret ?_
  have e0 := (some1 h); subst e0
  exact endY [] [] (rvC (resTmp rfl) rvN) trivial trivial rfl rfl rfl rfl (.free rfl)
 ·replace h := cond_f h b3
  refine m1 ?_
  refine s_of (st_conv ik5 ik3 rfl rfl) rfl rfl rfl rfl ?_
  refine bnd1_elim h fun x4 q5 h => ?_
  refine s_callN (kb := []) (ns := []) (v := .sc (.bool x4)) rfl rfl cl36 (ws_l1In (IntKind.i64.wrap p0) 48 57 x4 q5) rfl (.cons (.free rfl) (.cons (.free rfl) (.cons (.free rfl) .nil))) trivial memNil .nil memNil rfl trivial memNil rfl rfl rfl rfl rfl rfl ?_
  refine s_pickF rfl rfl (by conv => lhs; whnf) rfl rfl rfl ?_
  refine m1 ?_
  refine s_split (t := 11) rfl (fun b6 => ?_) (fun b6 => ?_)
  ·replace h := cond_t h b6
   refine s_skip rfl rfl rfl ?_
   refine s_skip rfl rfl rfl ?_
   refine s_pickT rfl rfl (v := .sc (.bool true)) rfl rfl rfl rfl ?_
   refine m1 ?_
   refine s_skip rfl rfl rfl ?_
   refine s_skip rfl rfl rfl ?_
   refine s_pickT rfl rfl (v := .sc (.bool true)) rfl rfl rfl rfl ?_
   refine m2 ?_
   refine rt_nil ?_
   refine tri_ret ?_
   have e0 := (some1 h); subst e0
   exact endY [] [] (rvC (resTmp rfl) rvN) trivial trivial rfl rfl rfl rfl (.free rfl)
  ·replace h := cond_f h b6
   refine m1 ?_
   refine s_of (st_eqI rfl rfl rfl) rfl rfl rfl rfl ?_
   refine s_pickF rfl rfl (by conv => lhs; whnf) rfl rfl rfl ?_
   refine m1 ?_
   refine s_split (t := 15) rfl (fun b7 => ?_) (fun b7 => ?_)
   ·replace h := cond_t h b7
    refine s_skip rfl rfl rfl ?_
    refine s_skip rfl rfl rfl ?_
    refine s_pickT rfl rfl (v := .sc (.bool true)) rfl rfl rfl rfl ?_
    refine m2 ?_
    refine rt_nil ?_
    refine tri_ret ?_
    have e0 := (some1 h); subst e0
    exact endY [] [] (rvC (resTmp rfl) rvN) trivial trivial rfl rfl rfl rfl (.free rfl)
   ·replace h := cond_f h b7
    refine m1 ?_
    refine s_of (st_eqI rfl rfl rfl) rfl rfl rfl rfl ?_
    refine s_pickF rfl rfl (by conv => lhs; whnf) rfl rfl rfl ?_
    refine m2 ?_
    refine rt_nil ?_
    refine tri_ret ?_
    have e0 := (some1 h); subst e0
    exact endY [] [] (rvC (resTmp rfl) rvN) trivial trivial rfl rfl rfl rfl (.free rfl)

/- spec.LabelOk -/
def inv_s_LabelOk_1 (p0 : ByteArray) (v1_0 : Int) : St := mkT 18 [(0, .sc (.string p0)), (3, .sc (.int .i64 v1_0))] []
def inv_s_LabelOk_0 (p0 : ByteArray) : St := mkT 18 [(0, .sc (.string p0))] []
set_option maxRecDepth 4000 in
set_option maxHeartbeats 800000 in
theorem ws_LabelOk (p0 : ByteArray) (r0 : Bool) (h : s_LabelOk p0 = some r0) : Runs Tryd.prog 43 [.sc (.string p0)] [] (.sc (.bool r0)) [] := by
 unfold s_LabelOk at h
 refine runsR [.tmp 2] Tryd.func43 rfl rfl rfl rfl ?_
 rw [Tryd.ntmps43]
 refine tri_sr ?_
 refine s_mv (.inr rfl) (v := .sc (.bool false)) rfl rfl rfl rfl ?_
 refine rt_nil ?_
 refine tri_cutI (ι := { p : Unit // s_LabelOk_j0 p0 = some r0 }) (fun p => inv_s_LabelOk_0 p0) ?_ ?_
 ·skip
  refine tri_sr ?_
  refine s_mv (.inr rfl) (v := .sc (.int .i64 0)) rfl rfl rfl rfl ?_
  refine rt_nil ?_
  refine tri_block ?_
  refine tri_loop (ι := { p : Nat × Int // s_LabelOk_l1 p0 p.1 p.2 = some r0 }) (fun p => inv_s_LabelOk_1 p0 p.1.2) (fun p => p.1.1) ⟨(fuel0, 0), h⟩ ?_ ?_
  ·skip
   refine entX [] [] trivial trivial rfl rfl ?_
   exact ⟨(.free rfl), (.free rfl), trivial⟩
  ·rintro ⟨⟨f1, v1_0⟩, h⟩
   replace h : s_LabelOk_l1 p0 f1 v1_0 = some r0 := h
   cases f1 with
   | zero => cases h
   | succ f1 =>
   rw [s_LabelOk_l1] at h
   show Tri _ _ _ (inv_s_LabelOk_1 p0 v1_0)
   refine tri_seq ?_
   refine tri_sr ?_
   refine m1 ?_
   refine m1 ?_
   refine s_of (st_lenS rfl rfl iss9) rfl rfl rfl rfl ?_
   refine s_of (st_lss rfl rfl rfl) rfl rfl rfl rfl ?_
   refine rt_nil ?_
   refine tri_cond rfl (fun c1 => ?_) (fun c1 => ?_)
   ·replace h := cond_t h c1
    refine tri_skip ?_
    refine tri_seq ?_
    refine tri_block ?_
    refine tri_sr ?_
    refine m1 ?_
    refine m1 ?_
    refine bnd1_elim h fun x2 q3 h => ?_
    refine s_idxS rfl rfl rfl iss9 q3 rfl rfl rfl ?_
    refine bnd1_elim h fun x4 q5 h => ?_
    refine s_callN (kb := []) (ns := []) (v := .sc (.bool x4)) rfl rfl cl58 (ws_l2Byte x2 x4 q5) rfl (.cons (.free rfl) .nil) trivial memNil .nil memNil rfl trivial memNil rfl rfl rfl rfl rfl rfl ?_
    refine s_of (st_not rfl rfl) rfl rfl rfl rfl ?_
    refine rt_nil ?_
    refine tri_cond rfl (fun c6 => ?_) (fun c6 => ?_)
    ·replace h := cond_t h c6
     refine tri_sr ?_
     refine s_mv (.inr rfl) (v := .sc (.bool false)) rfl rfl rfl rfl ?_
     refine rt_nil ?_
     refine tri_ret ?_
     have e0 := (some1 h); subst e0
     exact endY [] [] (rvC (resTmp rfl) rvN) trivial trivial rfl rfl rfl rfl (.free rfl)
    ·replace h := cond_f h c6
     refine tri_skip ?_
     refine tri_region ?_
     refine m1 ?_
     refine grd_elim h fun g7 h => ?_
     refine s_addI rfl rfl rfl rfl g7 rfl rfl rfl ?_
     refine m2 ?_
     refine rt_nil ?_
     refine Exists.intro ⟨(f1, v1_0 + 1), h⟩ (And.intro (Nat.lt_succ_self _) ?_)
     refine entX [] [] trivial trivial rfl rfl ?_
     exact ⟨(.free rfl), (.free rfl), trivial⟩
   ·replace h := cond_f h c1
    refine tri_exit ?_
    refine Exists.intro ⟨(), h⟩ ?_
    refine entX [] [] trivial trivial rfl rfl ?_
    exact ⟨(.free rfl), trivial⟩
 ·rintro ⟨u, h⟩
  replace h : s_LabelOk_j0 p0 = some r0 := h
  unfold s_LabelOk_j0 at h
  show Tri _ _ _ (inv_s_LabelOk_0 p0)
  refine tri_sr ?_
  refine m1 ?_
  refine s_of (st_lenS rfl rfl iss9) rfl rfl rfl rfl ?_
  refine bnd1_elim h fun x1 q2 h => ?_
  refine s_callN (kb := []) (ns := []) (v := .sc (.bool x1)) rfl rfl cl36 (ws_l1In (p0.size : Int) 1 12 x1 q2) rfl (.cons (.free rfl) (.cons (.free rfl) (.cons (.free rfl) .nil))) trivial memNil .nil memNil rfl trivial memNil rfl rfl rfl rfl rfl rfl ?_
  refine m2 ?_
  refine rt_nil ?_
  refine tri_ret ?_
  have e0 := (some1 h); subst e0
  exact endY [] [] (rvC (resTmp rfl) rvN) trivial trivial rfl rfl rfl rfl (.free rfl)

/- spec.GetLabel -/
def inv_s_GetLabel_1 (p0 : List Int) (p1 : Int) (x2 : Int) (j1_0 : Bool) : St := mkT 52 [(0, .lst 1 (List.map byteV p0)), (1, .sc (.int .i64 p1)), (7, .sc (.int .i64 (IntKind.i64.wrap x2))), (33, .sc (.bool j1_0))] []
def inv_s_GetLabel_0 (p0 : List Int) (p1 : Int) (j0_0 : Bool) : St := mkT 52 [(0, .lst 1 (List.map byteV p0)), (1, .sc (.int .i64 p1)), (16, .sc (.bool j0_0))] []
set_option maxRecDepth 4000 in
set_option maxHeartbeats 800000 in
theorem ws_GetLabel (p0 : List Int) (p1 : Int) (r0 : ByteArray) (r1 : Int) (r2 : Bool) (h : s_GetLabel p0 p1 = some (r0, r1, r2)) : Runs Tryd.prog 41 [.lst 1 (List.map byteV p0), .sc (.int .i64 p1)] [] (.tup [.sc (.string r0), .sc (.int .i64 r1), .sc (.bool r2)]) [] := by
 unfold s_GetLabel at h
 refine runsR [.tmp 4, .tmp 5, .tmp 6] Tryd.func41 rfl rfl rfl rfl ?_
 rw [Tryd.ntmps41]
 refine tri_sr ?_
 refine s_mv (.inr rfl) (v := .sc (.string (⟨#[]⟩ : ByteArray))) rfl rfl rfl rfl ?_
 refine s_mv (.inr rfl) (v := .sc (.int .i64 0)) rfl rfl rfl rfl ?_
 refine s_mv (.inr rfl) (v := .sc (.bool false)) rfl rfl rfl rfl ?_
 refine rt_nil ?_
 refine tri_seq ?_
 refine tri_cutI (ι := { p : Bool // s_GetLabel_j0 p0 p1 p = some (r0, r1, r2) }) (fun p => inv_s_GetLabel_0 p0 p1 p.1) ?_ ?_
 ·skip
  refine tri_region ?_
  refine m1 ?_
  refine s_of (st_lss rfl rfl rfl) rfl rfl rfl rfl ?_
  refine m1 ?_
  refine s_split (t := 11) rfl (fun b1 => ?_) (fun b1 => ?_)
  ·replace h := cond_t h b1
   refine s_skip rfl rfl rfl ?_
   refine s_skip rfl rfl rfl ?_
   refine s_skip rfl rfl rfl ?_
   refine s_skip rfl rfl rfl ?_
   refine s_pickT rfl rfl (v := .sc (.bool true)) rfl rfl rfl rfl ?_
   refine rt_nil ?_
   refine Exists.intro ⟨true, h⟩ ?_
   refine entX [] [] trivial trivial rfl rfl ?_
   exact ⟨(.free rfl), (.free rfl), (.free rfl), trivial⟩
  ·replace h := cond_f h b1
   refine m1 ?_
   refine m1 ?_
   refine s_lenL rfl sl22 rfl rfl rfl rfl ?_
   refine s_of (st_geq rfl rfl rfl) rfl rfl rfl rfl ?_
   refine s_pickF rfl rfl (by conv => lhs; whnf) rfl rfl rfl ?_
   refine rt_nil ?_
   refine Exists.intro ⟨decide ((p0.length : Int) ≤ p1), h⟩ ?_
   refine entX [] [] trivial trivial rfl rfl ?_
   exact ⟨(.free rfl), (.free rfl), (.free rfl), trivial⟩
 ·rintro ⟨j0_0, h⟩
  replace h : s_GetLabel_j0 p0 p1 j0_0 = some (r0, r1, r2) := h
  unfold s_GetLabel_j0 at h
  show Tri _ _ _ (inv_s_GetLabel_0 p0 p1 j0_0)
  refine tri_cond rfl (fun c1 => ?_) (fun c1 => ?_)
  ·replace h := cond_t h c1
   refine tri_sr ?_
   refine s_mv (.inr rfl) (v := .sc (.string (⟨#[]⟩ : ByteArray))) rfl rfl rfl rfl ?_
   refine s_mv (.inr rfl) (v := .sc (.int .i64 0)) rfl rfl rfl rfl ?_
   refine s_mv (.inr rfl) (v := .sc (.bool false)) rfl rfl rfl rfl ?_
   refine rt_nil ?_
   refine tri_ret ?_
   have e0 := (some3 h).1; have e1 := (some3 h).2.1; have e2 := (some3 h).2.2; subst e0; subst e1; subst e2
   exact endY [] [] (rvC (resTmp rfl) (rvC (resTmp rfl) (rvC (resTmp rfl) rvN))) trivial trivial rfl rfl rfl rfl (CvL.tup (.cons (.free rfl) (.cons (.free rfl) (.cons (.free rfl) .nil))))
  ·replace h := cond_f h c1
   refine tri_skip ?_
   refine tri_sr ?_
   refine m1 ?_
   refine m1 ?_
   refine bnd1_elim h fun x2 q3 h => ?_
   have q3a := (idx_some q3).1; have q3b := (idx_some q3).2
   refine s_indexFZ rfl rfl rfl sl22 q3a (get_ltM q3b) rfl rfl rfl ?_
   refine s_loadF rfl rfl (rowG q3b) ty5 rfl (.inr rfl) (by conv => lhs; whnf) rfl rfl rfl ?_
   refine s_of (st_conv ik5 ik3 rfl rfl) rfl rfl rfl rfl ?_
   refine m2 ?_
   refine rt_nil ?_
   refine tri_seq ?_
   refine tri_cutI (ι := { p : Bool // s_GetLabel_j1 p0 p1 x2 p = some (r0, r1, r2) }) (fun p => inv_s_GetLabel_1 p0 p1 x2 p.1) ?_ ?_
   ·skip
    refine tri_region ?_
    refine m1 ?_
    refine bnd1_elim h fun x4 q5 h => ?_
    refine s_callN (kb := []) (ns := []) (v := .sc (.bool x4)) rfl rfl cl36 (ws_l1In (IntKind.i64.wrap x2) 1 12 x4 q5) rfl (.cons (.free rfl) (.cons (.free rfl) (.cons (.free rfl) .nil))) trivial memNil .nil memNil rfl trivial memNil rfl rfl rfl rfl rfl rfl ?_
    refine s_of (st_not rfl rfl) rfl rfl rfl rfl ?_
    refine m1 ?_
    refine s_split (t := 25) rfl (fun b6 => ?_) (fun b6 => ?_)
    ·replace h := cond_t h b6
     refine s_skip rfl rfl rfl ?_
     refine s_skip rfl rfl rfl ?_
     refine s_skip rfl rfl rfl ?_
     refine s_skip rfl rfl rfl ?_
     refine s_skip rfl rfl rfl ?_
     refine s_skip rfl rfl rfl ?_
     refine s_skip rfl rfl rfl ?_
     refine s_pickT rfl rfl (v := .sc (.bool true)) rfl rfl rfl rfl ?_
     refine rt_nil ?_
     refine Exists.intro ⟨true, h⟩ ?_
     refine entX [] [] trivial trivial rfl rfl ?_
     exact ⟨(.free rfl), (.free rfl), (.free rfl), (.free rfl), trivial⟩
    ·replace h := cond_f h b6
     refine m1 ?_
     refine m1 ?_
     refine s_lenL rfl sl22 rfl rfl rfl rfl ?_
     refine m1 ?_
     refine grd_elim h fun g7 h => ?_
     refine s_subI rfl rfl rfl rfl g7 rfl rfl rfl ?_
     refine grd_elim h fun g8 h => ?_
     refine s_subI rfl rfl rfl rfl g8 rfl rfl rfl ?_
     refine s_of (st_gtr rfl rfl rfl) rfl rfl rfl rfl ?_
     refine s_pickF rfl rfl (by conv => lhs; whnf) rfl rfl rfl ?_
     refine rt_nil ?_
     refine Exists.intro ⟨decide (((p0.length : Int) - p1) - 1 < IntKind.i64.wrap x2), h⟩ ?_
     refine entX [] [] trivial trivial rfl rfl ?_
     exact ⟨(.free rfl), (.free rfl), (.free rfl), (.free rfl), trivial⟩
   ·rintro ⟨j1_0, h⟩
    replace h : s_GetLabel_j1 p0 p1 x2 j1_0 = some (r0, r1, r2) := h
    unfold s_GetLabel_j1 at h
    show Tri _ _ _ (inv_s_GetLabel_1 p0 p1 x2 j1_0)
    refine tri_cond rfl (fun c4 => ?_) (fun c4 => ?_)
    ·replace h := cond_t h c4
     refine tri_sr ?_
     refine s_mv (.inr rfl) (v := .sc (.string (⟨#[]⟩ : ByteArray))) rfl rfl rfl rfl ?_
     refine s_mv (.inr rfl) (v := .sc (.int .i64 0)) rfl rfl rfl rfl ?_
     refine s_mv (.inr rfl) (v := .sc (.bool false)) rfl rfl rfl rfl ?_
     refine rt_nil ?_
     refine tri_ret ?_
     have e0 := (some3 h).1; have e1 := (some3 h).2.1; have e2 := (some3 h).2.2; subst e0; subst e1; subst e2
     exact endY [] [] (rvC (resTmp rfl) (rvC (resTmp rfl) (rvC (resTmp rfl) rvN))) trivial trivial rfl rfl rfl rfl (CvL.tup (.cons (.free rfl) (.cons (.free rfl) (.cons (.free rfl) .nil))))
    ·replace h := cond_f h c4
     refine tri_skip ?_
     refine tri_sr ?_
     refine m1 ?_
     refine m1 ?_
     refine grd_elim h fun g5 h => ?_
     refine s_addI rfl rfl rfl rfl g5 rfl rfl rfl ?_
     refine m1 ?_
     refine grd_elim h fun g6 h => ?_
     refine s_addI rfl rfl rfl rfl g6 rfl rfl rfl ?_
     refine m1 ?_
     refine grd_elim h fun g7 h => ?_
     refine s_addI rfl rfl rfl rfl g7 rfl rfl rfl ?_
     refine grd_elim h fun g8 h => ?_
     refine s_sliceFZ (a := p1 + 1) (b := (p1 + 1) + (IntKind.i64.wrap x2)) rfl rfl sl22 ⟨_, rfl⟩ ⟨_, rfl⟩ g8 rfl rfl rfl ?_
     refine s_toString rfl src_lst byt22 iss9 rfl rfl rfl rfl ?_
     refine bnd1_elim h fun x9 q10 h => ?_
     refine s_callN (kb := []) (ns := []) (v := .sc (.string x9)) rfl rfl cl57 (ws_Fold (strOfNums ((p0.drop (p1 + 1).toNat).take (((p1 + 1) + (IntKind.i64.wrap x2)).toNat - (p1 + 1).toNat))) x9 q10) rfl (.cons (.free rfl) .nil) trivial memNil .nil memNil rfl trivial memNil rfl rfl rfl rfl rfl rfl ?_
     refine m2 ?_
     refine rt_nil ?_
     refine tri_seq ?_
     refine tri_sr ?_
     refine m1 ?_
     refine bnd1_elim h fun x11 q12 h => ?_
     refine s_callN (kb := []) (ns := []) (v := .sc (.bool x11)) rfl rfl cl43 (ws_LabelOk x9 x11 q12) rfl (.cons (.free rfl) .nil) trivial memNil .nil memNil rfl trivial memNil rfl rfl rfl rfl rfl rfl ?_
     refine s_of (st_not rfl rfl) rfl rfl rfl rfl ?_
     refine rt_nil ?_
     refine tri_cond rfl (fun c13 => ?_) (fun c13 => ?_)
     ·replace h := cond_t h c13
      refine tri_sr ?_
      refine s_mv (.inr rfl) (v := .sc (.string (⟨#[]⟩ : ByteArray))) rfl rfl rfl rfl ?_
      refine s_mv (.inr rfl) (v := .sc (.int .i64 0)) rfl rfl rfl rfl ?_
      refine s_mv (.inr rfl) (v := .sc (.bool false)) rfl rfl rfl rfl ?_
      refine rt_nil ?_
      refine tri_ret ?_
      have e0 := (some3 h).1; have e1 := (some3 h).2.1; have e2 := (some3 h).2.2; subst e0; subst e1; subst e2
      exact endY [] [] (rvC (resTmp rfl) (rvC (resTmp rfl) (rvC (resTmp rfl) rvN))) trivial trivial rfl rfl rfl rfl (CvL.tup (.cons (.free rfl) (.cons (.free rfl) (.cons (.free rfl) .nil))))
     ·replace h := cond_f h c13
      refine tri_skip ?_
      refine tri_sr ?_
      refine m1 ?_
      refine m1 ?_
      refine grd_elim h fun g14 h => ?_
      refine s_addI rfl rfl rfl rfl g14 rfl rfl rfl ?_
      refine m1 ?_
      refine grd_elim h fun g15 h => ?_
      refine s_addI rfl rfl rfl rfl g15 rfl rfl rfl ?_
      refine m2 ?_
      refine m2 ?_
      refine s_mv (.inr rfl) (v := .sc (.bool true)) rfl rfl rfl rfl ?_
      refine rt_nil ?_
      refine tri_ret ?_
      have e0 := (some3 h).1; have e1 := (some3 h).2.1; have e2 := (some3 h).2.2; subst e0; subst e1; subst e2
      exact endY [] [] (rvC (resTmp rfl) (rvC (resTmp rfl) (rvC (resTmp rfl) rvN))) trivial trivial rfl rfl rfl rfl (CvL.tup (.cons (.free rfl) (.cons (.free rfl) (.cons (.free rfl) .nil))))

/- spec.Labels -/
def inv_s_Labels_2 (p0 : ByteArray) (v0_0 : List ByteArray) (v0_1 : Int) (v0_2 : Int) (j2_0 : Bool) : St := mkT 37 [(0, .sc (.string p0)), (3, .ref (2003, 0) 0 v0_0.length), (4, .sc (.int .i64 v0_1)), (5, .sc (.int .i64 v0_2)), (26, .sc (.bool j2_0))] [((2003, 0), some ⟨9, 1, List.map strV v0_0, false, true⟩)]
def inv_s_Labels_1 (p0 : ByteArray) (v0_0 : List ByteArray) (v0_1 : Int) (v0_2 : Int) (j1_0 : Bool) : St := mkT 37 [(0, .sc (.string p0)), (3, .ref (2003, 0) 0 v0_0.length), (4, .sc (.int .i64 v0_1)), (5, .sc (.int .i64 v0_2)), (14, .sc (.bool j1_0))] [((2003, 0), some ⟨9, 1, List.map strV v0_0, false, true⟩)]
def inv_s_Labels_0 (p0 : ByteArray) (v0_0 : List ByteArray) (v0_1 : Int) (v0_2 : Int) : St := mkT 37 [(0, .sc (.string p0)), (3, .ref (2003, 0) 0 v0_0.length), (4, .sc (.int .i64 v0_1)), (5, .sc (.int .i64 v0_2))] [((2003, 0), some ⟨9, 1, List.map strV v0_0, false, true⟩)]
set_option maxRecDepth 4000 in
set_option maxHeartbeats 800000 in
theorem ws_Labels (p0 : ByteArray) (r0 : List ByteArray) (h : s_Labels p0 = some r0) : Runs Tryd.prog 42 [.sc (.string p0)] [] (.own 9 1 (List.map strV r0)) [] := by
 unfold s_Labels at h
 refine runsR [.tmp 2] Tryd.func42 rfl rfl rfl rfl ?_
 rw [Tryd.ntmps42]
 refine tri_sr ?_
 refine s_mv (.inr rfl) (v := .nils) rfl rfl rfl rfl ?_
 refine rt_nil ?_
 refine tri_sr ?_
 refine s_buildSlice (rows' := List.map strV ([] : List ByteArray)) rfl rfl rfl sl69 zc9 rfl rfl rfl rfl rfl rfl rfl rfl rfl ?_
 refine m2 ?_
 refine rt_nil ?_
 refine tri_sr ?_
 refine s_mv (.inr rfl) (v := .sc (.int .i64 0)) rfl rfl rfl rfl ?_
 refine rt_nil ?_
 refine tri_seq ?_
 refine tri_sr ?_
 refine s_mv (.inr rfl) (v := .sc (.int .i64 0)) rfl rfl rfl rfl ?_
 refine rt_nil ?_
 refine tri_block ?_
 refine tri_loop (ι := { p : Nat × (List ByteArray) × Int × Int // s_Labels_l0 p0 p.1 p.2.1 p.2.2.1 p.2.2.2 = some r0 }) (fun p => inv_s_Labels_0 p0 p.1.2.1 p.1.2.2.1 p.1.2.2.2) (fun p => p.1.1) ⟨(fuel0, ([] : List ByteArray), 0, 0), h⟩ ?_ ?_
 ·skip
  refine entX [((2003, 0), ⟨9, 1, List.map strV ([] : List ByteArray), false, true⟩, some (6, 0))] [] ⟨⟨rfl, _, rfl, rfl, rfl, rfl, id, rowsCv_eq rfl (allFree_map strV_free), rowsZ_map strV_len⟩, trivial⟩ trivial rfl rfl ?_
  exact ⟨(.free rfl), (.ref rfl), (.free rfl), (.free rfl), trivial⟩
 ·rintro ⟨⟨f0, v0_0, v0_1, v0_2⟩, h⟩
  replace h : s_Labels_l0 p0 f0 v0_0 v0_1 v0_2 = some r0 := h
  cases f0 with
  | zero => cases h
  | succ f0 =>
  rw [s_Labels_l0] at h
  show Tri _ _ _ (inv_s_Labels_0 p0 v0_0 v0_1 v0_2)
  refine tri_seq ?_
  refine tri_cutI (ι := { p : Bool // s_Labels_j1 p0 v0_0 v0_1 v0_2 (s_Labels_l0 p0 f0) p = some r0 }) (fun p => inv_s_Labels_1 p0 v0_0 v0_1 v0_2 p.1) ?_ ?_
  ·skip
   refine tri_region ?_
   refine m1 ?_
   refine m1 ?_
   refine s_of (st_lenS rfl rfl iss9) rfl rfl rfl rfl ?_
   refine s_of (st_leq rfl rfl rfl) rfl rfl rfl rfl ?_
   refine m1 ?_
   refine s_split (t := 11) rfl (fun b1 => ?_) (fun b1 => ?_)
   ·replace h := cond_t h b1
    refine m1 ?_
    refine s_of (st_neS rfl rfl rfl) rfl rfl rfl rfl ?_
    refine s_pickT rfl rfl (by conv => lhs; whnf) rfl rfl rfl ?_
    refine rt_nil ?_
    refine Exists.intro ⟨!decide (p0 = (⟨#[]⟩ : ByteArray)), h⟩ ?_
    refine entX [((2003, 0), ⟨9, 1, List.map strV v0_0, false, true⟩, some (2003, 0))] [] ⟨⟨rfl, _, rfl, rfl, rfl, rfl, id, rowsCv_eq rfl (allFree_map strV_free), rowsZ_map strV_len⟩, trivial⟩ trivial rfl rfl ?_
    exact ⟨(.free rfl), (.ref rfl), (.free rfl), (.free rfl), (.free rfl), trivial⟩
   ·replace h := cond_f h b1
    refine s_skip rfl rfl rfl ?_
    refine s_skip rfl rfl rfl ?_
    refine s_pickF rfl rfl (v := .sc (.bool false)) rfl rfl rfl rfl ?_
    refine rt_nil ?_
    refine Exists.intro ⟨false, h⟩ ?_
    refine entX [((2003, 0), ⟨9, 1, List.map strV v0_0, false, true⟩, some (2003, 0))] [] ⟨⟨rfl, _, rfl, rfl, rfl, rfl, id, rowsCv_eq rfl (allFree_map strV_free), rowsZ_map strV_len⟩, trivial⟩ trivial rfl rfl ?_
    exact ⟨(.free rfl), (.ref rfl), (.free rfl), (.free rfl), (.free rfl), trivial⟩
  ·rintro ⟨j1_0, h⟩
   replace h : s_Labels_j1 p0 v0_0 v0_1 v0_2 (s_Labels_l0 p0 f0) j1_0 = some r0 := h
   unfold s_Labels_j1 at h
   show Tri _ _ _ (inv_s_Labels_1 p0 v0_0 v0_1 v0_2 j1_0)
   refine tri_cond rfl (fun c1 => ?_) (fun c1 => ?_)
   ·replace h := cond_t h c1
    refine tri_skip ?_
    refine tri_seq ?_
    refine tri_block ?_
    refine tri_cutI (ι := { p : Bool // s_Labels_j2 p0 v0_0 v0_1 v0_2 (s_Labels_l0 p0 f0) p = some r0 }) (fun p => inv_s_Labels_2 p0 v0_0 v0_1 v0_2 p.1) ?_ ?_
    ·skip
     refine tri_region ?_
     refine m1 ?_
     refine m1 ?_
     refine s_of (st_lenS rfl rfl iss9) rfl rfl rfl rfl ?_
     refine s_of (st_eqI rfl rfl rfl) rfl rfl rfl rfl ?_
     refine m1 ?_
     refine s_split (t := 21) rfl (fun b2 => ?_) (fun b2 => ?_)
     ·replace h := cond_t h b2
      refine s_skip rfl rfl rfl ?_
      refine s_skip rfl rfl rfl ?_
      refine s_skip rfl rfl rfl ?_
      refine s_skip rfl rfl rfl ?_
      refine s_pickT rfl rfl (v := .sc (.bool true)) rfl rfl rfl rfl ?_
      refine rt_nil ?_
      refine Exists.intro ⟨true, h⟩ ?_
      refine entX [((2003, 0), ⟨9, 1, List.map strV v0_0, false, true⟩, some (2003, 0))] [] ⟨⟨rfl, _, rfl, rfl, rfl, rfl, id, rowsCv_eq rfl (allFree_map strV_free), rowsZ_map strV_len⟩, trivial⟩ trivial rfl rfl ?_
      exact ⟨(.free rfl), (.ref rfl), (.free rfl), (.free rfl), (.free rfl), trivial⟩
     ·replace h := cond_f h b2
      refine m1 ?_
      refine m1 ?_
      refine bnd1_elim h fun x3 q4 h => ?_
      refine s_idxS rfl rfl rfl iss9 q4 rfl rfl rfl ?_
      refine s_of (st_eqI rfl rfl rfl) rfl rfl rfl rfl ?_
      refine s_pickF rfl rfl (by conv => lhs; whnf) rfl rfl rfl ?_
      refine rt_nil ?_
      refine Exists.intro ⟨decide (x3 = 46), h⟩ ?_
      refine entX [((2003, 0), ⟨9, 1, List.map strV v0_0, false, true⟩, some (2003, 0))] [] ⟨⟨rfl, _, rfl, rfl, rfl, rfl, id, rowsCv_eq rfl (allFree_map strV_free), rowsZ_map strV_len⟩, trivial⟩ trivial rfl rfl ?_
      exact ⟨(.free rfl), (.ref rfl), (.free rfl), (.free rfl), (.free rfl), trivial⟩
    ·rintro ⟨j2_0, h⟩
     replace h : s_Labels_j2 p0 v0_0 v0_1 v0_2 (s_Labels_l0 p0 f0) j2_0 = some r0 := h
     unfold s_Labels_j2 at h
     show Tri _ _ _ (inv_s_Labels_2 p0 v0_0 v0_1 v0_2 j2_0)
     refine tri_cond rfl (fun c2 => ?_) (fun c2 => ?_)
     ·replace h := cond_t h c2
      refine tri_sr ?_
      refine m1 ?_
      refine m1 ?_
      refine m1 ?_
      refine m1 ?_
      refine grd_elim h fun g3 h => ?_
      refine s_sliceS (a := v0_1) (b := v0_2) rfl rfl iss9 ⟨_, rfl⟩ ⟨_, rfl⟩ g3 rfl rfl rfl ?_
      refine s_buildSlice (rows' := List.map strV [p0.extract v0_1.toNat v0_2.toNat]) rfl rfl rfl sl69 zc9 rfl rfl rfl rfl rfl rfl rfl rfl rfl ?_
      refine grd_elim h fun g4 h => ?_
      refine s_appL rfl rfl rfl sl69 zc9 rfl rfl rfl rfl rfl rfl (src_refL rfl rfl) g4 rfl rfl ?_
      refine m2 ?_
      refine rt_nil ?_
      refine tri_region ?_
      refine m1 ?_
      refine grd_elim h fun g5 h => ?_
      refine s_addI rfl rfl rfl rfl g5 rfl rfl rfl ?_
      refine m2 ?_
      refine rt_nil ?_
      refine tri_region ?_
      refine m1 ?_
      refine grd_elim h fun g6 h => ?_
      refine s_addI rfl rfl rfl rfl g6 rfl rfl rfl ?_
      refine m2 ?_
      refine rt_nil ?_
      refine Exists.intro ⟨(f0, v0_0 ++ [p0.extract v0_1.toNat v0_2.toNat], v0_2 + 1, v0_2 + 1), h⟩ (And.intro (Nat.lt_succ_self _) ?_)
      refine entX [((2003, 0), ⟨9, 1, List.map strV (v0_0 ++ [p0.extract v0_1.toNat v0_2.toNat]), false, true⟩, some (33, 0))] [] ⟨⟨rfl, _, rfl, rfl, rfl, rfl, id, rowsCv_eq rfl (allFree_map strV_free), rowsZ_map strV_len⟩, trivial⟩ trivial rfl rfl ?_
      exact ⟨(.free rfl), (.ref rfl), (.free rfl), (.free rfl), trivial⟩
     ·replace h := cond_f h c2
      refine tri_skip ?_
      refine tri_region ?_
      refine m1 ?_
      refine grd_elim h fun g7 h => ?_
      refine s_addI rfl rfl rfl rfl g7 rfl rfl rfl ?_
      refine m2 ?_
      refine rt_nil ?_
      refine Exists.intro ⟨(f0, v0_0, v0_1, v0_2 + 1), h⟩ (And.intro (Nat.lt_succ_self _) ?_)
      refine entX [((2003, 0), ⟨9, 1, List.map strV v0_0, false, true⟩, some (2003, 0))] [] ⟨⟨rfl, _, rfl, rfl, rfl, rfl, id, rowsCv_eq rfl (allFree_map strV_free), rowsZ_map strV_len⟩, trivial⟩ trivial rfl rfl ?_
      exact ⟨(.free rfl), (.ref rfl), (.free rfl), (.free rfl), trivial⟩
   ·replace h := cond_f h c1
    refine tri_exit ?_
    refine tri_sr ?_
    refine m1 ?_
    refine m2 ?_
    refine rt_nil ?_
    refine tri_ret ?_
    have e0 := (some1 h); subst e0
    exact endY (v' := .ref (2000, 0) 0 v0_0.length) [((2000, 0), ⟨9, 1, List.map strV v0_0, false, true⟩, some (2003, 0))] [] (rvC (resTmp rfl) rvN) ⟨⟨rfl, _, rfl, rfl, rfl, rfl, id, rowsCv_eq rfl (allFree_map strV_free), rowsZ_map strV_len⟩, trivial⟩ trivial rfl rfl (by kernel_rfl) (by simp only [V.mat, V.mat1, V.mat0, matL, matT, List.length_map] <;> rfl) (.ref rfl)

/- spec.NameOk -/
def inv_s_NameOk_1 (p0 : ByteArray) (x1 : List ByteArray) (v1_0 : Nat) : St := mkT 27 [(0, .sc (.string p0)), (3, .ref (6, 0) 0 x1.length), (4, .sc (.int .i64 (v1_0 : Int)))] [((6, 0), some ⟨9, 1, List.map strV x1, false, true⟩)]
def inv_s_NameOk_0 (p0 : ByteArray) (x1 : List ByteArray) : St := mkT 27 [(0, .sc (.string p0)), (3, .ref (6, 0) 0 x1.length)] [((6, 0), some ⟨9, 1, List.map strV x1, false, true⟩)]
set_option maxRecDepth 4000 in
set_option maxHeartbeats 800000 in
theorem ws_NameOk (p0 : ByteArray) (r0 : Bool) (h : s_NameOk p0 = some r0) : Runs Tryd.prog 30 [.sc (.string p0)] [] (.sc (.bool r0)) [] := by
 unfold s_NameOk at h
 refine runsR [.tmp 2] Tryd.func30 rfl rfl rfl rfl ?_
 rw [Tryd.ntmps30]
 refine tri_sr ?_
 refine s_mv (.inr rfl) (v := .sc (.bool false)) rfl rfl rfl rfl ?_
 refine rt_nil ?_
 refine tri_sr ?_
 refine m1 ?_
 refine bnd1_elim h fun x1 q2 h => ?_
 refine s_callN (kb := []) (ns := []) (v := .ref (6, 0) 0 x1.length) rfl rfl cl42 (ws_Labels p0 x1 q2) rfl (.cons (.free rfl) .nil) trivial memNil .nil memNil rfl ⟨(allSc_map strV_sc), trivial⟩ memNil rfl (by simp only [V.mat, V.mat1, V.mat0, matL, matT, List.length_map] <;> rfl) rfl rfl rfl rfl ?_
 refine m2 ?_
 refine rt_nil ?_
 refine tri_cutI (ι := { p : Unit // s_NameOk_j0 p0 x1 = some r0 }) (fun p => inv_s_NameOk_0 p0 x1) ?_ ?_
 ·skip
  refine tri_sr ?_
  refine s_mv (.inr rfl) (v := .sc (.int .i64 0)) rfl rfl rfl rfl ?_
  refine rt_nil ?_
  refine tri_block ?_
  refine tri_ownM (6, 0) rfl (fun hl1 => ?_)
  refine tri_loop (ι := { p : (List ByteArray) × Nat // x1.drop p.2 = p.1 ∧ s_NameOk_l1 p0 x1 p.1 p.2 = some r0 }) (fun p => inv_s_NameOk_1 p0 x1 p.1.2) (fun p => p.1.1.length) ⟨(x1, 0), rfl, h⟩ ?_ ?_
  ·skip
   refine entX [((6, 0), ⟨9, 1, List.map strV x1, false, true⟩, some (6, 0))] [] ⟨⟨rfl, _, rfl, rfl, rfl, rfl, id, rowsCv_eq rfl (allFree_map strV_free), rowsZ_map strV_len⟩, trivial⟩ trivial rfl rfl ?_
   exact ⟨(.free rfl), (.ref rfl), (.free rfl), trivial⟩
  ·rintro ⟨⟨lrs1, v1_0⟩, hd1, h⟩
   replace hd1 : x1.drop v1_0 = lrs1 := hd1
   replace h : s_NameOk_l1 p0 x1 lrs1 v1_0 = some r0 := h
   show Tri _ _ _ (inv_s_NameOk_1 p0 x1 v1_0)
   refine tri_seq ?_
   refine tri_sr ?_
   refine m1 ?_
   refine m1 ?_
   refine s_len (m := x1.length) rfl sl69 rfl rfl rfl rfl ?_
   refine s_of (st_lss rfl rfl rfl) rfl rfl rfl rfl ?_
   refine rt_nil ?_
   refine tri_cond rfl (fun c3 => ?_) (fun c3 => ?_)
   ·refine drop_elim hd1 c3 fun e1 rs1 he hx1 hn1 => ?_
    subst he
    rw [s_NameOk_l1] at h
    refine tri_skip ?_
    refine tri_seq ?_
    refine tri_block ?_
    refine tri_sr ?_
    refine m1 ?_
    refine m1 ?_
    refine s_index0 (i := v1_0) rfl rfl rfl rfl sl69 rfl (get_lt hx1) rfl rfl rfl ?_
    refine s_load rfl rfl rfl (rowG hx1) ty9 rfl (.inr rfl) (by conv => lhs; whnf) rfl rfl rfl ?_
    refine bnd1_elim h fun x4 q5 h => ?_
    refine s_callN (kb := []) (ns := []) (v := .sc (.bool x4)) rfl rfl cl43 (ws_LabelOk e1 x4 q5) rfl (.cons (.free rfl) .nil) trivial memNil .nil memNil rfl trivial memNil rfl rfl rfl rfl rfl rfl ?_
    refine s_of (st_not rfl rfl) rfl rfl rfl rfl ?_
    refine rt_nil ?_
    refine tri_cond rfl (fun c6 => ?_) (fun c6 => ?_)
    ·replace h := cond_t h c6
     refine tri_sr ?_
     refine s_mv (.inr rfl) (v := .sc (.bool false)) rfl rfl rfl rfl ?_
     refine rt_nil ?_
     refine tri_ret ?_
     have e0 := (some1 h); subst e0
     exact endY [] [] (rvC (resTmp rfl) rvN) trivial trivial rfl rfl rfl rfl (.free rfl)
    ·replace h := cond_f h c6
     refine tri_skip ?_
     refine tri_region ?_
     refine m1 ?_
     refine s_inc (a := v1_0) (b := 1) rfl rfl rfl rfl (by have := get_lt hx1; have := hl1; omega) rfl rfl rfl ?_
     refine m2 ?_
     refine rt_nil ?_
     refine Exists.intro ⟨(rs1, (v1_0 + 1)), hn1, h⟩ (And.intro (Nat.lt_succ_self _) ?_)
     refine entX [((6, 0), ⟨9, 1, List.map strV x1, false, true⟩, some (6, 0))] [] ⟨⟨rfl, _, rfl, rfl, rfl, rfl, id, rowsCv_eq rfl (allFree_map strV_free), rowsZ_map strV_len⟩, trivial⟩ trivial rfl rfl ?_
     exact ⟨(.free rfl), (.ref rfl), (.free rfl), trivial⟩
   ·have he := drop_f hd1 c3; subst he
    rw [s_NameOk_l1] at h
    refine tri_exit ?_
    refine Exists.intro ⟨(), h⟩ ?_
    refine entX [((6, 0), ⟨9, 1, List.map strV x1, false, true⟩, some (6, 0))] [] ⟨⟨rfl, _, rfl, rfl, rfl, rfl, id, rowsCv_eq rfl (allFree_map strV_free), rowsZ_map strV_len⟩, trivial⟩ trivial rfl rfl ?_
    exact ⟨(.free rfl), (.ref rfl), trivial⟩
 ·rintro ⟨u, h⟩
  replace h : s_NameOk_j0 p0 x1 = some r0 := h
  unfold s_NameOk_j0 at h
  show Tri _ _ _ (inv_s_NameOk_0 p0 x1)
  refine tri_sr ?_
  refine m1 ?_
  refine s_of (st_lenS rfl rfl iss9) rfl rfl rfl rfl ?_
  refine s_of (st_leq rfl rfl rfl) rfl rfl rfl rfl ?_
  refine m1 ?_
  refine s_split (t := 22) rfl (fun b3 => ?_) (fun b3 => ?_)
  ·replace h := cond_t h b3
   refine m1 ?_
   refine s_len (m := x1.length) rfl sl69 rfl rfl rfl rfl ?_
   refine s_of (st_leq rfl rfl rfl) rfl rfl rfl rfl ?_
   refine s_pickT rfl rfl (by conv => lhs; whnf) rfl rfl rfl ?_
   refine m2 ?_
   refine rt_nil ?_
   refine tri_ret ?_
   have e0 := (some1 h); subst e0
   exact endY [] [] (rvC (resTmp rfl) rvN) trivial trivial rfl rfl rfl rfl (.free rfl)
  ·replace h := cond_f h b3
   refine s_skip rfl rfl rfl ?_
   refine s_skip rfl rfl rfl ?_
   refine s_skip rfl rfl rfl ?_
   refine s_pickF rfl rfl (v := .sc (.bool false)) rfl rfl rfl rfl ?_
   refine m2 ?_
   refine rt_nil ?_
   refine tri_ret ?_
   have e0 := (some1 h); subst e0
   exact endY [] [] (rvC (resTmp rfl) rvN) trivial trivial rfl rfl rfl rfl (.free rfl)

/- spec.l4Walk -/
def inv_s_l4Walk_2 (v0_1 : ByteArray) (v0_4 : Int) (j2_0 : Int) : St := mkT 105 [(8, .sc (.string v0_1)), (9, .sc (.int .i64 j2_0)), (11, .sc (.int .i64 v0_4))] []
def inv_s_l4Walk_3 (p0 : List Int) (v0_1 : ByteArray) (v0_4 : Int) (x2 : Int) (x13 : Int) (j3_0 : Int) : St := mkT 105 [(0, .lst 1 (List.map byteV p0)), (8, .sc (.string v0_1)), (9, .sc (.int .i64 j3_0)), (11, .sc (.int .i64 v0_4)), (13, .sc (.int .i64 ((256 * ((IntKind.i64.wrap x2) - 192)) + (IntKind.i64.wrap x13))))] []
def inv_s_l4Walk_5 (p0 : List Int) (v0_2 : Int) (v0_3 : Int) (v0_4 : Int) (x20 : ByteArray) (x21 : Int) (j5_0 : ByteArray) : St := mkT 105 [(0, .lst 1 (List.map byteV p0)), (8, .sc (.string j5_0)), (9, .sc (.int .i64 v0_2)), (10, .sc (.int .i64 v0_3)), (11, .sc (.int .i64 v0_4)), (14, .sc (.string x20)), (15, .sc (.int .i64 x21))] []
def inv_s_l4Walk_4 (p0 : List Int) (v0_0 : Int) (v0_1 : ByteArray) (v0_2 : Int) (v0_3 : Int) (v0_4 : Int) (j4_0 : Bool) : St := mkT 105 [(0, .lst 1 (List.map byteV p0)), (1, .sc (.int .i64 v0_0)), (8, .sc (.string v0_1)), (9, .sc (.int .i64 v0_2)), (10, .sc (.int .i64 v0_3)), (11, .sc (.int .i64 v0_4)), (81, .sc (.bool j4_0))] []
def inv_s_l4Walk_1 (p0 : List Int) (v0_0 : Int) (v0_1 : ByteArray) (v0_2 : Int) (v0_3 : Int) (v0_4 : Int) (j1_0 : Bool) : St := mkT 105 [(0, .lst 1 (List.map byteV p0)), (1, .sc (.int .i64 v0_0)), (8, .sc (.string v0_1)), (9, .sc (.int .i64 v0_2)), (10, .sc (.int .i64 v0_3)), (11, .sc (.int .i64 v0_4)), (25, .sc (.bool j1_0))] []
def inv_s_l4Walk_0 (p0 : List Int) (v0_0 : Int) (v0_1 : ByteArray) (v0_2 : Int) (v0_3 : Int) (v0_4 : Int) : St := mkT 105 [(0, .lst 1 (List.map byteV p0)), (1, .sc (.int .i64 v0_0)), (8, .sc (.string v0_1)), (9, .sc (.int .i64 v0_2)), (10, .sc (.int .i64 v0_3)), (11, .sc (.int .i64 v0_4))] []
set_option maxRecDepth 4000 in
set_option maxHeartbeats 800000 in
theorem ws_l4Walk (p0 : List Int) (p1 : Int) (r0 : ByteArray) (r1 : Int) (r2 : Int) (r3 : Int) (h : s_l4Walk p0 p1 = some (r0, r1, r2, r3)) : Runs Tryd.prog 29 [.lst 1 (List.map byteV p0), .sc (.int .i64 p1)] [] (.tup [.sc (.string r0), .sc (.int .i64 r1), .sc (.int .i64 r2), .sc (.int .i64 r3)]) [] := by
 unfold s_l4Walk at h
 refine runsR [.tmp 4, .tmp 5, .tmp 6, .tmp 7] Tryd.func29 rfl rfl rfl rfl ?_
 rw [Tryd.ntmps29]
 refine tri_sr ?_
 refine s_mv (.inr rfl) (v := .sc (.string (⟨#[]⟩ : ByteArray))) rfl rfl rfl rfl ?_
 refine s_mv (.inr rfl) (v := .sc (.int .i64 0)) rfl rfl rfl rfl ?_
 refine s_mv (.inr rfl) (v := .sc (.int .i64 0)) rfl rfl rfl rfl ?_
 refine s_mv (.inr rfl) (v := .sc (.int .i64 0)) rfl rfl rfl rfl ?_
 refine rt_nil ?_
 refine tri_sr ?_
 refine s_mv (.inr rfl) (v := .sc (.string (⟨#[]⟩ : ByteArray))) rfl rfl rfl rfl ?_
 refine rt_nil ?_
 refine tri_sr ?_
 refine s_mv (.inr rfl) (v := .sc (.int .i64 (-1))) rfl rfl rfl rfl ?_
 refine rt_nil ?_
 refine tri_sr ?_
 refine m1 ?_
 refine m2 ?_
 refine rt_nil ?_
 refine tri_sr ?_
 refine s_mv (.inr rfl) (v := .sc (.int .i64 0)) rfl rfl rfl rfl ?_
 refine rt_nil ?_
 refine tri_block ?_
 refine tri_loop (ι := { p : Nat × Int × ByteArray × Int × Int × Int // s_l4Walk_l0 p0 p.1 p.2.1 p.2.2.1 p.2.2.2.1 p.2.2.2.2.1 p.2.2.2.2.2 = some (r0, r1, r2, r3) }) (fun p => inv_s_l4Walk_0 p0 p.1.2.1 p.1.2.2.1 p.1.2.2.2.1 p.1.2.2.2.2.1 p.1.2.2.2.2.2) (fun p => p.1.1) ⟨(fuel0, p1, (⟨#[]⟩ : ByteArray), (-1), p1, 0), h⟩ ?_ ?_
 ·skip
  refine entX [] [] trivial trivial rfl rfl ?_
  exact ⟨(.free rfl), (.free rfl), (.free rfl), (.free rfl), (.free rfl), (.free rfl), trivial⟩
 ·rintro ⟨⟨f0, v0_0, v0_1, v0_2, v0_3, v0_4⟩, h⟩
  replace h : s_l4Walk_l0 p0 f0 v0_0 v0_1 v0_2 v0_3 v0_4 = some (r0, r1, r2, r3) := h
  cases f0 with
  | zero => cases h
  | succ f0 =>
  rw [s_l4Walk_l0] at h
  show Tri _ _ _ (inv_s_l4Walk_0 p0 v0_0 v0_1 v0_2 v0_3 v0_4)
  refine tri_block ?_
  refine tri_seq ?_
  refine tri_cutI (ι := { p : Bool // s_l4Walk_j1 p0 v0_0 v0_1 v0_2 v0_3 v0_4 (s_l4Walk_l0 p0 f0) p = some (r0, r1, r2, r3) }) (fun p => inv_s_l4Walk_1 p0 v0_0 v0_1 v0_2 v0_3 v0_4 p.1) ?_ ?_
  ·skip
   refine tri_region ?_
   refine m1 ?_
   refine s_of (st_lss rfl rfl rfl) rfl rfl rfl rfl ?_
   refine m1 ?_
   refine s_split (t := 20) rfl (fun b1 => ?_) (fun b1 => ?_)
   ·replace h := cond_t h b1
    refine s_skip rfl rfl rfl ?_
    refine s_skip rfl rfl rfl ?_
    refine s_skip rfl rfl rfl ?_
    refine s_skip rfl rfl rfl ?_
    refine s_pickT rfl rfl (v := .sc (.bool true)) rfl rfl rfl rfl ?_
    refine rt_nil ?_
    refine Exists.intro ⟨true, h⟩ ?_
    refine entX [] [] trivial trivial rfl rfl ?_
    exact ⟨(.free rfl), (.free rfl), (.free rfl), (.free rfl), (.free rfl), (.free rfl), (.free rfl), trivial⟩
   ·replace h := cond_f h b1
    refine m1 ?_
    refine m1 ?_
    refine s_lenL rfl sl22 rfl rfl rfl rfl ?_
    refine s_of (st_geq rfl rfl rfl) rfl rfl rfl rfl ?_
    refine s_pickF rfl rfl (by conv => lhs; whnf) rfl rfl rfl ?_
    refine rt_nil ?_
    refine Exists.intro ⟨decide ((p0.length : Int) ≤ v0_0), h⟩ ?_
    refine entX [] [] trivial trivial rfl rfl ?_
    exact ⟨(.free rfl), (.free rfl), (.free rfl), (.free rfl), (.free rfl), (.free rfl), (.free rfl), trivial⟩
  ·rintro ⟨j1_0, h⟩
   replace h : s_l4Walk_j1 p0 v0_0 v0_1 v0_2 v0_3 v0_4 (s_l4Walk_l0 p0 f0) j1_0 = some (r0, r1, r2, r3) := h
   unfold s_l4Walk_j1 at h
   show Tri _ _ _ (inv_s_l4Walk_1 p0 v0_0 v0_1 v0_2 v0_3 v0_4 j1_0)
   refine tri_cond rfl (fun c1 => ?_) (fun c1 => ?_)
   ·replace h := cond_t h c1
    refine tri_sr ?_
    refine m1 ?_
    refine s_mv (.inr rfl) (v := .sc (.string (⟨#[]⟩ : ByteArray))) rfl rfl rfl rfl ?_
    refine s_mv (.inr rfl) (v := .sc (.int .i64 0)) rfl rfl rfl rfl ?_
    refine s_mv (.inr rfl) (v := .sc (.int .i64 1)) rfl rfl rfl rfl ?_
    refine m2 ?_
    refine rt_nil ?_
    refine tri_ret ?_
    have e0 := (some4 h).1; have e1 := (some4 h).2.1; have e2 := (some4 h).2.2.1; have e3 := (some4 h).2.2.2; subst e0; subst e1; subst e2; subst e3
    exact endY [] [] (rvC (resTmp rfl) (rvC (resTmp rfl) (rvC (resTmp rfl) (rvC (resTmp rfl) rvN)))) trivial trivial rfl rfl rfl rfl (CvL.tup (.cons (.free rfl) (.cons (.free rfl) (.cons (.free rfl) (.cons (.free rfl) .nil)))))
   ·replace h := cond_f h c1
    refine tri_skip ?_
    refine tri_sr ?_
    refine m1 ?_
    refine m1 ?_
    refine bnd1_elim h fun x2 q3 h => ?_
    have q3a := (idx_some q3).1; have q3b := (idx_some q3).2
    refine s_indexFZ rfl rfl rfl sl22 q3a (get_ltM q3b) rfl rfl rfl ?_
    refine s_loadF rfl rfl (rowG q3b) ty5 rfl (.inr rfl) (by conv => lhs; whnf) rfl rfl rfl ?_
    refine s_of (st_conv ik5 ik3 rfl rfl) rfl rfl rfl rfl ?_
    refine m2 ?_
    refine rt_nil ?_
    refine tri_seq ?_
    refine tri_sr ?_
    refine m1 ?_
    refine s_of (st_eqI rfl rfl rfl) rfl rfl rfl rfl ?_
    refine rt_nil ?_
    refine tri_cond rfl (fun c4 => ?_) (fun c4 => ?_)
    ·replace h := cond_t h c4
     refine tri_cutI (ι := { p : Int // s_l4Walk_j2 v0_1 v0_4 p = some (r0, r1, r2, r3) }) (fun p => inv_s_l4Walk_2 v0_1 v0_4 p.1) ?_ ?_
     ·skip
      refine tri_sr ?_
      refine m1 ?_
      refine s_of (st_lss rfl rfl rfl) rfl rfl rfl rfl ?_
      refine rt_nil ?_
      refine tri_cond rfl (fun c5 => ?_) (fun c5 => ?_)
      ·replace h := cond_t h c5
       refine tri_region ?_
       refine m1 ?_
       refine grd_elim h fun g6 h => ?_
       refine s_addI rfl rfl rfl rfl g6 rfl rfl rfl ?_
       refine m2 ?_
       refine rt_nil ?_
       refine Exists.intro ⟨v0_0 + 1, h⟩ ?_
       refine entX [] [] trivial trivial rfl rfl ?_
       exact ⟨(.free rfl), (.free rfl), (.free rfl), trivial⟩
      ·replace h := cond_f h c5
       refine tri_skip ?_
       refine Exists.intro ⟨v0_2, h⟩ ?_
       refine entX [] [] trivial trivial rfl rfl ?_
       exact ⟨(.free rfl), (.free rfl), (.free rfl), trivial⟩
     ·rintro ⟨j2_0, h⟩
      replace h : s_l4Walk_j2 v0_1 v0_4 j2_0 = some (r0, r1, r2, r3) := h
      unfold s_l4Walk_j2 at h
      show Tri _ _ _ (inv_s_l4Walk_2 v0_1 v0_4 j2_0)
      refine tri_sr ?_
      refine m1 ?_
      refine m1 ?_
      refine m1 ?_
      refine m2 ?_
      refine m2 ?_
      refine s_mv (.inr rfl) (v := .sc (.int .i64 0)) rfl rfl rfl rfl ?_
      refine m2 ?_
      refine rt_nil ?_
      refine tri_ret ?_
      have e0 := (some4 h).1; have e1 := (some4 h).2.1; have e2 := (some4 h).2.2.1; have e3 := (some4 h).2.2.2; subst e0; subst e1; subst e2; subst e3
      exact endY [] [] (rvC (resTmp rfl) (rvC (resTmp rfl) (rvC (resTmp rfl) (rvC (resTmp rfl) rvN)))) trivial trivial rfl rfl rfl rfl (CvL.tup (.cons (.free rfl) (.cons (.free rfl) (.cons (.free rfl) (.cons (.free rfl) .nil)))))
    ·replace h := cond_f h c4
     refine tri_skip ?_
     refine tri_seq ?_
     refine tri_sr ?_
     refine m1 ?_
     refine s_of (st_geq rfl rfl rfl) rfl rfl rfl rfl ?_
     refine rt_nil ?_
     refine tri_cond rfl (fun c7 => ?_) (fun c7 => ?_)
     ·replace h := cond_t h c7
      refine tri_seq ?_
      refine tri_sr ?_
      refine m1 ?_
      refine grd_elim h fun g8 h => ?_
      refine s_addI rfl rfl rfl rfl g8 rfl rfl rfl ?_
      refine m1 ?_
      refine s_lenL rfl sl22 rfl rfl rfl rfl ?_
      refine s_of (st_geq rfl rfl rfl) rfl rfl rfl rfl ?_
      refine rt_nil ?_
      refine tri_cond rfl (fun c9 => ?_) (fun c9 => ?_)
      ·replace h := cond_t h c9
       refine tri_sr ?_
       refine m1 ?_
       refine s_mv (.inr rfl) (v := .sc (.string (⟨#[]⟩ : ByteArray))) rfl rfl rfl rfl ?_
       refine s_mv (.inr rfl) (v := .sc (.int .i64 0)) rfl rfl rfl rfl ?_
       refine s_mv (.inr rfl) (v := .sc (.int .i64 1)) rfl rfl rfl rfl ?_
       refine m2 ?_
       refine rt_nil ?_
       refine tri_ret ?_
       have e0 := (some4 h).1; have e1 := (some4 h).2.1; have e2 := (some4 h).2.2.1; have e3 := (some4 h).2.2.2; subst e0; subst e1; subst e2; subst e3
       exact endY [] [] (rvC (resTmp rfl) (rvC (resTmp rfl) (rvC (resTmp rfl) (rvC (resTmp rfl) rvN)))) trivial trivial rfl rfl rfl rfl (CvL.tup (.cons (.free rfl) (.cons (.free rfl) (.cons (.free rfl) (.cons (.free rfl) .nil)))))
      ·replace h := cond_f h c9
       refine tri_skip ?_
       refine tri_sr ?_
       refine m1 ?_
       refine grd_elim h fun g10 h => ?_
       refine s_subI rfl rfl rfl rfl g10 rfl rfl rfl ?_
       refine grd_elim h fun g11 h => ?_
       refine s_mulI rfl rfl rfl rfl g11 rfl rfl rfl ?_
       refine m1 ?_
       refine m1 ?_
       refine grd_elim h fun g12 h => ?_
       refine s_addI rfl rfl rfl rfl g12 rfl rfl rfl ?_
       refine bnd1_elim h fun x13 q14 h => ?_
       have q14a := (idx_some q14).1; have q14b := (idx_some q14).2
       refine s_indexFZ rfl rfl rfl sl22 q14a (get_ltM q14b) rfl rfl rfl ?_
       refine s_loadF rfl rfl (rowG q14b) ty5 rfl (.inr rfl) (by conv => lhs; whnf) rfl rfl rfl ?_
       refine s_of (st_conv ik5 ik3 rfl rfl) rfl rfl rfl rfl ?_
       refine grd_elim h fun g15 h => ?_
       refine s_addI rfl rfl rfl rfl g15 rfl rfl rfl ?_
       refine m2 ?_
       refine rt_nil ?_
       refine tri_seq ?_
       refine tri_sr ?_
       refine m1 ?_
       refine m1 ?_
       refine s_of (st_geq rfl rfl rfl) rfl rfl rfl rfl ?_
       refine rt_nil ?_
       refine tri_cond rfl (fun c16 => ?_) (fun c16 => ?_)
       ·replace h := cond_t h c16
        refine tri_sr ?_
        refine m1 ?_
        refine s_mv (.inr rfl) (v := .sc (.string (⟨#[]⟩ : ByteArray))) rfl rfl rfl rfl ?_
        refine s_mv (.inr rfl) (v := .sc (.int .i64 0)) rfl rfl rfl rfl ?_
        refine s_mv (.inr rfl) (v := .sc (.int .i64 3)) rfl rfl rfl rfl ?_
        refine m2 ?_
        refine rt_nil ?_
        refine tri_ret ?_
        have e0 := (some4 h).1; have e1 := (some4 h).2.1; have e2 := (some4 h).2.2.1; have e3 := (some4 h).2.2.2; subst e0; subst e1; subst e2; subst e3
        exact endY [] [] (rvC (resTmp rfl) (rvC (resTmp rfl) (rvC (resTmp rfl) (rvC (resTmp rfl) rvN)))) trivial trivial rfl rfl rfl rfl (CvL.tup (.cons (.free rfl) (.cons (.free rfl) (.cons (.free rfl) (.cons (.free rfl) .nil)))))
       ·replace h := cond_f h c16
        refine tri_skip ?_
        refine tri_cutI (ι := { p : Int // s_l4Walk_j3 v0_1 v0_4 x2 x13 (s_l4Walk_l0 p0 f0) p = some (r0, r1, r2, r3) }) (fun p => inv_s_l4Walk_3 p0 v0_1 v0_4 x2 x13 p.1) ?_ ?_
        ·skip
         refine tri_sr ?_
         refine m1 ?_
         refine s_of (st_lss rfl rfl rfl) rfl rfl rfl rfl ?_
         refine rt_nil ?_
         refine tri_cond rfl (fun c17 => ?_) (fun c17 => ?_)
         ·replace h := cond_t h c17
          refine tri_region ?_
          refine m1 ?_
          refine grd_elim h fun g18 h => ?_
          refine s_addI rfl rfl rfl rfl g18 rfl rfl rfl ?_
          refine m2 ?_
          refine rt_nil ?_
          refine Exists.intro ⟨v0_0 + 2, h⟩ ?_
          refine entX [] [] trivial trivial rfl rfl ?_
          exact ⟨(.free rfl), (.free rfl), (.free rfl), (.free rfl), (.free rfl), trivial⟩
         ·replace h := cond_f h c17
          refine tri_skip ?_
          refine Exists.intro ⟨v0_2, h⟩ ?_
          refine entX [] [] trivial trivial rfl rfl ?_
          exact ⟨(.free rfl), (.free rfl), (.free rfl), (.free rfl), (.free rfl), trivial⟩
        ·rintro ⟨j3_0, h⟩
         replace h : s_l4Walk_j3 v0_1 v0_4 x2 x13 (s_l4Walk_l0 p0 f0) j3_0 = some (r0, r1, r2, r3) := h
         unfold s_l4Walk_j3 at h
         show Tri _ _ _ (inv_s_l4Walk_3 p0 v0_1 v0_4 x2 x13 j3_0)
         refine tri_sr ?_
         refine m1 ?_
         refine grd_elim h fun g17 h => ?_
         refine s_addI rfl rfl rfl rfl g17 rfl rfl rfl ?_
         refine m2 ?_
         refine rt_nil ?_
         refine tri_sr ?_
         refine m1 ?_
         refine m2 ?_
         refine rt_nil ?_
         refine tri_sr ?_
         refine m1 ?_
         refine m2 ?_
         refine rt_nil ?_
         refine tri_exit ?_
         refine Exists.intro ⟨(f0, (256 * ((IntKind.i64.wrap x2) - 192)) + (IntKind.i64.wrap x13), v0_1, j3_0, (256 * ((IntKind.i64.wrap x2) - 192)) + (IntKind.i64.wrap x13), v0_4 + 1), h⟩ (And.intro (Nat.lt_succ_self _) ?_)
         refine entX [] [] trivial trivial rfl rfl ?_
         exact ⟨(.free rfl), (.free rfl), (.free rfl), (.free rfl), (.free rfl), (.free rfl), trivial⟩
     ·replace h := cond_f h c7
      refine tri_skip ?_
      refine tri_seq ?_
      refine tri_cutI (ι := { p : Bool // s_l4Walk_j4 p0 v0_0 v0_1 v0_2 v0_3 v0_4 (s_l4Walk_l0 p0 f0) p = some (r0, r1, r2, r3) }) (fun p => inv_s_l4Walk_4 p0 v0_0 v0_1 v0_2 v0_3 v0_4 p.1) ?_ ?_
      ·skip
       refine tri_region ?_
       refine m1 ?_
       refine s_of (st_leq rfl rfl rfl) rfl rfl rfl rfl ?_
       refine m1 ?_
       refine s_split (t := 73) rfl (fun b19 => ?_) (fun b19 => ?_)
       ·replace h := cond_t h b19
        refine m1 ?_
        refine m1 ?_
        refine s_lenL rfl sl22 rfl rfl rfl rfl ?_
        refine m1 ?_
        refine grd_elim h fun g20 h => ?_
        refine s_subI rfl rfl rfl rfl g20 rfl rfl rfl ?_
        refine grd_elim h fun g21 h => ?_
        refine s_subI rfl rfl rfl rfl g21 rfl rfl rfl ?_
        refine s_of (st_gtr rfl rfl rfl) rfl rfl rfl rfl ?_
        refine s_pickT rfl rfl (by conv => lhs; whnf) rfl rfl rfl ?_
        refine rt_nil ?_
        refine Exists.intro ⟨decide (((p0.length : Int) - v0_0) - 1 < IntKind.i64.wrap x2), h⟩ ?_
        refine entX [] [] trivial trivial rfl rfl ?_
        exact ⟨(.free rfl), (.free rfl), (.free rfl), (.free rfl), (.free rfl), (.free rfl), (.free rfl), trivial⟩
       ·replace h := cond_f h b19
        refine s_skip rfl rfl rfl ?_
        refine s_skip rfl rfl rfl ?_
        refine s_skip rfl rfl rfl ?_
        refine s_skip rfl rfl rfl ?_
        refine s_skip rfl rfl rfl ?_
        refine s_skip rfl rfl rfl ?_
        refine s_skip rfl rfl rfl ?_
        refine s_pickF rfl rfl (v := .sc (.bool false)) rfl rfl rfl rfl ?_
        refine rt_nil ?_
        refine Exists.intro ⟨false, h⟩ ?_
        refine entX [] [] trivial trivial rfl rfl ?_
        exact ⟨(.free rfl), (.free rfl), (.free rfl), (.free rfl), (.free rfl), (.free rfl), (.free rfl), trivial⟩
      ·rintro ⟨j4_0, h⟩
       replace h : s_l4Walk_j4 p0 v0_0 v0_1 v0_2 v0_3 v0_4 (s_l4Walk_l0 p0 f0) j4_0 = some (r0, r1, r2, r3) := h
       unfold s_l4Walk_j4 at h
       show Tri _ _ _ (inv_s_l4Walk_4 p0 v0_0 v0_1 v0_2 v0_3 v0_4 j4_0)
       refine tri_cond rfl (fun c19 => ?_) (fun c19 => ?_)
       ·replace h := cond_t h c19
        refine tri_sr ?_
        refine m1 ?_
        refine s_mv (.inr rfl) (v := .sc (.string (⟨#[]⟩ : ByteArray))) rfl rfl rfl rfl ?_
        refine s_mv (.inr rfl) (v := .sc (.int .i64 0)) rfl rfl rfl rfl ?_
        refine s_mv (.inr rfl) (v := .sc (.int .i64 1)) rfl rfl rfl rfl ?_
        refine m2 ?_
        refine rt_nil ?_
        refine tri_ret ?_
        have e0 := (some4 h).1; have e1 := (some4 h).2.1; have e2 := (some4 h).2.2.1; have e3 := (some4 h).2.2.2; subst e0; subst e1; subst e2; subst e3
        exact endY [] [] (rvC (resTmp rfl) (rvC (resTmp rfl) (rvC (resTmp rfl) (rvC (resTmp rfl) rvN)))) trivial trivial rfl rfl rfl rfl (CvL.tup (.cons (.free rfl) (.cons (.free rfl) (.cons (.free rfl) (.cons (.free rfl) .nil)))))
       ·replace h := cond_f h c19
        refine tri_skip ?_
        refine tri_sr ?_
        refine m1 ?_
        refine m1 ?_
        refine bnd3_elim h fun x20 x21 x22 q23 h => ?_
        refine s_callN (kb := []) (ns := []) (v := .tup [.sc (.string x20), .sc (.int .i64 x21), .sc (.bool x22)]) rfl rfl cl41 (ws_GetLabel p0 v0_0 x20 x21 x22 q23) rfl (.cons (.free rfl) (.cons (.free rfl) .nil)) trivial memNil .nil memNil rfl trivial memNil rfl rfl rfl rfl rfl rfl ?_
        refine m1 ?_
        refine s_extract rfl rfl rfl rfl rfl rfl ?_
        refine s_extract rfl rfl rfl rfl rfl rfl ?_
        refine s_extract rfl rfl rfl rfl rfl rfl ?_
        refine m2 ?_
        refine m2 ?_
        refine m2 ?_
        refine rt_nil ?_
        refine tri_seq ?_
        refine tri_sr ?_
        refine m1 ?_
        refine s_of (st_not rfl rfl) rfl rfl rfl rfl ?_
        refine rt_nil ?_
        refine tri_cond rfl (fun c24 => ?_) (fun c24 => ?_)
        ·replace h := cond_t h c24
         refine tri_sr ?_
         refine m1 ?_
         refine s_mv (.inr rfl) (v := .sc (.string (⟨#[]⟩ : ByteArray))) rfl rfl rfl rfl ?_
         refine s_mv (.inr rfl) (v := .sc (.int .i64 0)) rfl rfl rfl rfl ?_
         refine s_mv (.inr rfl) (v := .sc (.int .i64 2)) rfl rfl rfl rfl ?_
         refine m2 ?_
         refine rt_nil ?_
         refine tri_ret ?_
         have e0 := (some4 h).1; have e1 := (some4 h).2.1; have e2 := (some4 h).2.2.1; have e3 := (some4 h).2.2.2; subst e0; subst e1; subst e2; subst e3
         exact endY [] [] (rvC (resTmp rfl) (rvC (resTmp rfl) (rvC (resTmp rfl) (rvC (resTmp rfl) rvN)))) trivial trivial rfl rfl rfl rfl (CvL.tup (.cons (.free rfl) (.cons (.free rfl) (.cons (.free rfl) (.cons (.free rfl) .nil)))))
        ·replace h := cond_f h c24
         refine tri_skip ?_
         refine tri_cutI (ι := { p : ByteArray // s_l4Walk_j5 v0_2 v0_3 v0_4 x20 x21 (s_l4Walk_l0 p0 f0) p = some (r0, r1, r2, r3) }) (fun p => inv_s_l4Walk_5 p0 v0_2 v0_3 v0_4 x20 x21 p.1) ?_ ?_
         ·skip
          refine tri_sr ?_
          refine m1 ?_
          refine s_of (st_neS rfl rfl rfl) rfl rfl rfl rfl ?_
          refine rt_nil ?_
          refine tri_cond rfl (fun c25 => ?_) (fun c25 => ?_)
          ·replace h := cond_t h c25
           refine tri_region ?_
           refine m1 ?_
           refine grd_elim h fun g26 h => ?_
           refine s_of (st_catS g26 rfl rfl rfl) rfl rfl rfl rfl ?_
           refine m2 ?_
           refine rt_nil ?_
           refine Exists.intro ⟨v0_1 ++ (⟨#[46]⟩ : ByteArray), h⟩ ?_
           refine entX [] [] trivial trivial rfl rfl ?_
           exact ⟨(.free rfl), (.free rfl), (.free rfl), (.free rfl), (.free rfl), (.free rfl), (.free rfl), trivial⟩
          ·replace h := cond_f h c25
           refine tri_skip ?_
           refine Exists.intro ⟨v0_1, h⟩ ?_
           refine entX [] [] trivial trivial rfl rfl ?_
           exact ⟨(.free rfl), (.free rfl), (.free rfl), (.free rfl), (.free rfl), (.free rfl), (.free rfl), trivial⟩
         ·rintro ⟨j5_0, h⟩
          replace h : s_l4Walk_j5 v0_2 v0_3 v0_4 x20 x21 (s_l4Walk_l0 p0 f0) j5_0 = some (r0, r1, r2, r3) := h
          unfold s_l4Walk_j5 at h
          show Tri _ _ _ (inv_s_l4Walk_5 p0 v0_2 v0_3 v0_4 x20 x21 j5_0)
          refine tri_sr ?_
          refine m1 ?_
          refine m1 ?_
          refine grd_elim h fun g25 h => ?_
          refine s_of (st_catS g25 rfl rfl rfl) rfl rfl rfl rfl ?_
          refine m2 ?_
          refine rt_nil ?_
          refine tri_seq ?_
          refine tri_sr ?_
          refine m1 ?_
          refine bnd1_elim h fun x26 q27 h => ?_
          refine s_callN (kb := []) (ns := []) (v := .sc (.bool x26)) rfl rfl cl30 (ws_NameOk (j5_0 ++ x20) x26 q27) rfl (.cons (.free rfl) .nil) trivial memNil .nil memNil rfl trivial memNil rfl rfl rfl rfl rfl rfl ?_
          refine s_of (st_not rfl rfl) rfl rfl rfl rfl ?_
          refine rt_nil ?_
          refine tri_cond rfl (fun c28 => ?_) (fun c28 => ?_)
          ·replace h := cond_t h c28
           refine tri_sr ?_
           refine m1 ?_
           refine s_mv (.inr rfl) (v := .sc (.string (⟨#[]⟩ : ByteArray))) rfl rfl rfl rfl ?_
           refine s_mv (.inr rfl) (v := .sc (.int .i64 0)) rfl rfl rfl rfl ?_
           refine s_mv (.inr rfl) (v := .sc (.int .i64 4)) rfl rfl rfl rfl ?_
           refine m2 ?_
           refine rt_nil ?_
           refine tri_ret ?_
           have e0 := (some4 h).1; have e1 := (some4 h).2.1; have e2 := (some4 h).2.2.1; have e3 := (some4 h).2.2.2; subst e0; subst e1; subst e2; subst e3
           exact endY [] [] (rvC (resTmp rfl) (rvC (resTmp rfl) (rvC (resTmp rfl) (rvC (resTmp rfl) rvN)))) trivial trivial rfl rfl rfl rfl (CvL.tup (.cons (.free rfl) (.cons (.free rfl) (.cons (.free rfl) (.cons (.free rfl) .nil)))))
          ·replace h := cond_f h c28
           refine tri_skip ?_
           refine tri_region ?_
           refine m1 ?_
           refine m2 ?_
           refine rt_nil ?_
           refine Exists.intro ⟨(f0, x21, j5_0 ++ x20, v0_2, v0_3, v0_4), h⟩ (And.intro (Nat.lt_succ_self _) ?_)
           refine entX [] [] trivial trivial rfl rfl ?_
           exact ⟨(.free rfl), (.free rfl), (.free rfl), (.free rfl), (.free rfl), (.free rfl), trivial⟩

/- spec.GetName -/

set_option maxRecDepth 4000 in
set_option maxHeartbeats 800000 in
theorem ws_GetName (p0 : List Int) (p1 : Int) (r0 : ByteArray) (r1 : Int) (r2 : Int) (h : s_GetName p0 p1 = some (r0, r1, r2)) : Runs Tryd.prog 16 [.lst 1 (List.map byteV p0), .sc (.int .i64 p1)] [] (.tup [.sc (.string r0), .sc (.int .i64 r1), .sc (.int .i64 r2)]) [] := by
 unfold s_GetName at h
 refine runsR [.tmp 4, .tmp 5, .tmp 6] Tryd.func16 rfl rfl rfl rfl ?_
 rw [Tryd.ntmps16]
 refine tri_sr ?_
 refine s_mv (.inr rfl) (v := .sc (.string (⟨#[]⟩ : ByteArray))) rfl rfl rfl rfl ?_
 refine s_mv (.inr rfl) (v := .sc (.int .i64 0)) rfl rfl rfl rfl ?_
 refine s_mv (.inr rfl) (v := .sc (.int .i64 0)) rfl rfl rfl rfl ?_
 refine rt_nil ?_
 refine tri_sr ?_
 refine m1 ?_
 refine m1 ?_
 refine bnd4_elim h fun x1 x2 x3 x4 q5 h => ?_
 refine s_callN (kb := []) (ns := []) (v := .tup [.sc (.string x1), .sc (.int .i64 x2), .sc (.int .i64 x3), .sc (.int .i64 x4)]) rfl rfl cl29 (ws_l4Walk p0 p1 x1 x2 x3 x4 q5) rfl (.cons (.free rfl) (.cons (.free rfl) .nil)) trivial memNil .nil memNil rfl trivial memNil rfl rfl rfl rfl rfl rfl ?_
 refine m1 ?_
 refine s_extract rfl rfl rfl rfl rfl rfl ?_
 refine s_extract rfl rfl rfl rfl rfl rfl ?_
 refine s_extract rfl rfl rfl rfl rfl rfl ?_
 refine s_extract rfl rfl rfl rfl rfl rfl ?_
 refine m2 ?_
 refine m2 ?_
 refine m2 ?_
 refine m2 ?_
 refine rt_nil ?_
 refine tri_sr ?_
 refine m1 ?_
 refine m1 ?_
 refine m1 ?_
 refine m2 ?_
 refine m2 ?_
 refine m2 ?_
 refine rt_nil ?_
 refine tri_ret ?_
 have e0 := (some3 h).1; have e1 := (some3 h).2.1; have e2 := (some3 h).2.2; subst e0; subst e1; subst e2
 exact endY [] [] (rvC (resTmp rfl) (rvC (resTmp rfl) (rvC (resTmp rfl) rvN))) trivial trivial rfl rfl rfl rfl (CvL.tup (.cons (.free rfl) (.cons (.free rfl) (.cons (.free rfl) .nil))))

/- spec.TypeOk -/

set_option maxRecDepth 4000 in
set_option maxHeartbeats 800000 in
theorem ws_TypeOk (p0 : Int) (r0 : Bool) (h : s_TypeOk p0 = some r0) : Runs Tryd.prog 31 [.sc (.int .i64 p0)] [] (.sc (.bool r0)) [] := by
 unfold s_TypeOk at h
 refine runsR [.tmp 2] Tryd.func31 rfl rfl rfl rfl ?_
 rw [Tryd.ntmps31]
 refine tri_sr ?_
 refine s_mv (.inr rfl) (v := .sc (.bool false)) rfl rfl rfl rfl ?_
 refine rt_nil ?_
 refine tri_sr ?_
 refine m1 ?_
 refine s_of (st_eqI rfl rfl rfl) rfl rfl rfl rfl ?_
 refine m1 ?_
 refine s_split (t := 5) rfl (fun b1 => ?_) (fun b1 => ?_)
 ·replace h := cond_t h b1
  refine s_skip rfl rfl rfl ?_
  refine s_skip rfl rfl rfl ?_
  refine s_pickT rfl rfl (v := .sc (.bool true)) rfl rfl rfl rfl ?_
  refine m1 ?_
  refine s_skip rfl rfl rfl ?_
  refine s_skip rfl rfl rfl ?_
  refine s_pickT rfl rfl (v := .sc (.bool true)) rfl rfl rfl rfl ?_
  refine m1 ?_
  refine s_skip rfl rfl rfl ?_
  refine s_skip rfl rfl rfl ?_
  refine s_pickT rfl rfl (v := .sc (.bool true)) rfl rfl rfl rfl ?_
  refine m1 ?_
  refine s_skip rfl rfl rfl ?_
  refine s_skip rfl rfl rfl ?_
  refine s_pickT rfl rfl (v := .sc (.bool true)) rfl rfl rfl rfl ?_
  refine m2 ?_
  refine rt_nil ?_
  refine tri_ret ?_
  have e0 := (some1 h); subst e0
  exact endY [] [] (rvC (resTmp rfl) rvN) trivial trivial rfl rfl rfl rfl (.free rfl)
 ·replace h := cond_f h b1
  refine m1 ?_
  refine s_of (st_eqI rfl rfl rfl) rfl rfl rfl rfl ?_
  refine s_pickF rfl rfl (by conv => lhs; whnf) rfl rfl rfl ?_
  refine m1 ?_
  refine s_split (t := 9) rfl (fun b2 => ?_) (fun b2 => ?_)
  ·replace h := cond_t h b2
   refine s_skip rfl rfl rfl ?_
   refine s_skip rfl rfl rfl ?_
   refine s_pickT rfl rfl (v := .sc (.bool true)) rfl rfl rfl rfl ?_
   refine m1 ?_
   refine s_skip rfl rfl rfl ?_
   refine s_skip rfl rfl rfl ?_
   refine s_pickT rfl rfl (v := .sc (.bool true)) rfl rfl rfl rfl ?_
   refine m1 ?_
   refine s_skip rfl rfl rfl ?_
   refine s_skip rfl rfl rfl ?_
   refine s_pickT rfl rfl (v := .sc (.bool true)) rfl rfl rfl rfl ?_
   refine m2 ?_
   refine rt_nil ?_
   refine tri_ret ?_
   have e0 := (some1 h); subst e0
   exact endY [] [] (rvC (resTmp rfl) rvN) trivial trivial rfl rfl rfl rfl (.free rfl)
  ·replace h := cond_f h b2
   refine m1 ?_
   refine s_of (st_eqI rfl rfl rfl) rfl rfl rfl rfl ?_
   refine s_pickF rfl rfl (by conv => lhs; whnf) rfl rfl rfl ?_
   refine m1 ?_
   refine s_split (t := 13) rfl (fun b3 => ?_) (fun b3 => ?_)
   ·replace h := cond_t h b3
    refine s_skip rfl rfl rfl ?_
    refine s_skip rfl rfl rfl ?_
    refine s_pickT rfl rfl (v := .sc (.bool true)) rfl rfl rfl rfl ?_
    refine m1 ?_
    refine s_skip rfl rfl rfl ?_
    refine s_skip rfl rfl rfl ?_
    refine s_pickT rfl rfl (v := .sc (.bool true)) rfl rfl rfl rfl ?_
    refine m2 ?_
    refine rt_nil ?_
    refine tri_ret ?_
    have e0 := (some1 h); subst e0
    exact endY [] [] (rvC (resTmp rfl) rvN) trivial trivial rfl rfl rfl rfl (.free rfl)
   ·replace h := cond_f h b3
    refine m1 ?_
    refine s_of (st_eqI rfl rfl rfl) rfl rfl rfl rfl ?_
    refine s_pickF rfl rfl (by conv => lhs; whnf) rfl rfl rfl ?_
    refine m1 ?_
    refine s_split (t := 17) rfl (fun b4 => ?_) (fun b4 => ?_)
    ·replace h := cond_t h b4
     refine s_skip rfl rfl rfl ?_
     refine s_skip rfl rfl rfl ?_
     refine s_pickT rfl rfl (v := .sc (.bool true)) rfl rfl rfl rfl ?_
     refine m2 ?_
     refine rt_nil ?_
     refine tri_ret ?_
     have e0 := (some1 h); subst e0
     exact endY [] [] (rvC (resTmp rfl) rvN) trivial trivial rfl rfl rfl rfl (.free rfl)
    ·replace h := cond_f h b4
     refine m1 ?_
     refine s_of (st_eqI rfl rfl rfl) rfl rfl rfl rfl ?_
     refine s_pickF rfl rfl (by conv => lhs; whnf) rfl rfl rfl ?_
     refine m2 ?_
     refine rt_nil ?_
     refine tri_ret ?_
     have e0 := (some1 h); subst e0
     exact endY [] [] (rvC (resTmp rfl) rvN) trivial trivial rfl rfl rfl rfl (.free rfl)

/- spec.QuestOk -/

set_option maxRecDepth 4000 in
set_option maxHeartbeats 800000 in
theorem ws_QuestOk (p0 : Quest) (r0 : Bool) (h : s_QuestOk p0 = some r0) : Runs Tryd.prog 18 [.agg (questV p0)] [] (.sc (.bool r0)) [] := by
 unfold s_QuestOk at h
 refine runsR [.tmp 2] Tryd.func18 rfl rfl rfl rfl ?_
 rw [Tryd.ntmps18]
 refine tri_sr ?_
 refine s_box rfl rfl rfl rfl rfl rfl rfl ?_
 refine s_mv (.inr rfl) (v := .sc (.bool false)) rfl rfl rfl rfl ?_
 refine rt_nil ?_
 refine tri_sr ?_
 refine s_fieldAddr rfl rfl fd24_0 rfl rfl rfl rfl ?_
 refine s_load rfl rfl rfl rfl ty9 rfl (.inr rfl) (by conv => lhs; whnf) rfl rfl rfl ?_
 refine bnd1_elim h fun x1 q2 h => ?_
 refine s_callN (kb := []) (ns := []) (v := .sc (.bool x1)) rfl rfl cl30 (ws_NameOk p0.name x1 q2) rfl (.cons (.free rfl) .nil) trivial memNil .nil memNil rfl trivial memNil rfl rfl rfl rfl rfl rfl ?_
 refine m1 ?_
 refine s_split (t := 6) rfl (fun b3 => ?_) (fun b3 => ?_)
 ·replace h := cond_t h b3
  refine s_fieldAddr rfl rfl fd24_1 rfl rfl rfl rfl ?_
  refine s_load rfl rfl rfl rfl ty3 rfl (.inr rfl) (by conv => lhs; whnf) rfl rfl rfl ?_
  refine bnd1_elim h fun x4 q5 h => ?_
  refine s_callN (kb := []) (ns := []) (v := .sc (.bool x4)) rfl rfl cl31 (ws_TypeOk p0.ty x4 q5) rfl (.cons (.free rfl) .nil) trivial memNil .nil memNil rfl trivial memNil rfl rfl rfl rfl rfl rfl ?_
  refine s_pickT rfl rfl (by conv => lhs; whnf) rfl rfl rfl ?_
  refine m2 ?_
  refine rt_nil ?_
  refine tri_ret ?_
  have e0 := (some1 h); subst e0
  exact endY [] [] (rvC (resTmp rfl) rvN) trivial trivial rfl rfl rfl rfl (.free rfl)
 ·replace h := cond_f h b3
  refine s_skip rfl rfl rfl ?_
  refine s_skip rfl rfl rfl ?_
  refine s_skip rfl rfl rfl ?_
  refine s_pickF rfl rfl (v := .sc (.bool false)) rfl rfl rfl rfl ?_
  refine m2 ?_
  refine rt_nil ?_
  refine tri_ret ?_
  have e0 := (some1 h); subst e0
  exact endY [] [] (rvC (resTmp rfl) rvN) trivial trivial rfl rfl rfl rfl (.free rfl)

/- spec.GetQuest -/
def inv_s_GetQuest_0 (x1 : ByteArray) (x2 : Int) (x8 : Int) (j0_0 : Bool) : St := mkT 61 [(4, .ptr (4, 0) 0 0), (7, .ptr (7, 0) 0 0), (9, .sc (.int .i64 x2)), (15, .ptr (15, 0) 0 0), (56, .sc (.bool j0_0))] [((4, 0), some ⟨24, 2, [[.sc (.string (⟨#[]⟩ : ByteArray)), .sc (.int .i64 0)]], false, true⟩), ((7, 0), some ⟨24, 2, [[.sc (.string (⟨#[]⟩ : ByteArray)), .sc (.int .i64 0)]], false, true⟩), ((15, 0), some ⟨24, 2, [[.sc (.string x1), .sc (.int .i64 x8)]], false, true⟩)]
set_option maxRecDepth 4000 in
set_option maxHeartbeats 800000 in
theorem ws_GetQuest (p0 : List Int) (p1 : Int) (r0 : Quest) (r1 : Int) (r2 : Int) (h : s_GetQuest p0 p1 = some (r0, r1, r2)) : Runs Tryd.prog 5 [.lst 1 (List.map byteV p0), .sc (.int .i64 p1)] [] (.tup [.agg (questV r0), .sc (.int .i64 r1), .sc (.int .i64 r2)]) [] := by
 unfold s_GetQuest at h
 refine runsR [.cell 4 24, .tmp 5, .tmp 6] Tryd.func5 rfl rfl rfl rfl ?_
 rw [Tryd.ntmps5]
 refine tri_sr ?_
 refine s_alloc rfl rfl rfl zc24 rfl rfl rfl rfl rfl ?_
 refine s_mv (.inr rfl) (v := .sc (.int .i64 0)) rfl rfl rfl rfl ?_
 refine s_mv (.inr rfl) (v := .sc (.int .i64 0)) rfl rfl rfl rfl ?_
 refine rt_nil ?_
 refine tri_sr ?_
 refine s_build (cells' := [.sc (.string (⟨#[]⟩ : ByteArray)), .sc (.int .i64 0)]) rfl stc24 rfl rfl rfl rfl rfl rfl rfl ?_
 refine s_alloc rfl rfl rfl zc24 rfl rfl rfl rfl rfl ?_
 refine s_storeB rfl rfl rfl ty24 rfl rfl rfl rfl rfl ?_
 refine rt_nil ?_
 refine tri_sr ?_
 refine m1 ?_
 refine m1 ?_
 refine bnd3_elim h fun x1 x2 x3 q4 h => ?_
 refine s_callN (kb := []) (ns := []) (v := .tup [.sc (.string x1), .sc (.int .i64 x2), .sc (.int .i64 x3)]) rfl rfl cl16 (ws_GetName p0 p1 x1 x2 x3 q4) rfl (.cons (.free rfl) (.cons (.free rfl) .nil)) trivial memNil .nil memNil rfl trivial memNil rfl rfl rfl rfl rfl rfl ?_
 refine m1 ?_
 refine s_extract rfl rfl rfl rfl rfl rfl ?_
 refine s_extract rfl rfl rfl rfl rfl rfl ?_
 refine s_extract rfl rfl rfl rfl rfl rfl ?_
 refine m2 ?_
 refine m2 ?_
 refine m2 ?_
 refine rt_nil ?_
 refine tri_seq ?_
 refine tri_sr ?_
 refine m1 ?_
 refine s_of (st_neI rfl rfl rfl) rfl rfl rfl rfl ?_
 refine rt_nil ?_
 refine tri_cond rfl (fun c5 => ?_) (fun c5 => ?_)
 ·replace h := cond_t h c5
  refine tri_sr ?_
  refine s_loadR rfl rfl rfl rfl ty24 rfl rfl rfl ?_
  refine m1 ?_
  refine s_storeB rfl rfl rfl ty24 rfl rfl rfl rfl rfl ?_
  refine s_mv (.inr rfl) (v := .sc (.int .i64 0)) rfl rfl rfl rfl ?_
  refine m2 ?_
  refine rt_nil ?_
  refine tri_ret ?_
  have e0 := (some3 h).1; have e1 := (some3 h).2.1; have e2 := (some3 h).2.2; subst e0; subst e1; subst e2
  exact endY [] [] (rvC (resCell rfl rfl ty24) (rvC (resTmp rfl) (rvC (resTmp rfl) rvN))) trivial trivial rfl rfl rfl rfl (CvL.tup (.cons (cvAgg rfl) (.cons (.free rfl) (.cons (.free rfl) .nil))))
 ·replace h := cond_f h c5
  refine tri_skip ?_
  refine tri_seq ?_
  refine tri_sr ?_
  refine m1 ?_
  refine m1 ?_
  refine s_lenL rfl sl22 rfl rfl rfl rfl ?_
  refine grd_elim h fun g6 h => ?_
  refine s_subI rfl rfl rfl rfl g6 rfl rfl rfl ?_
  refine s_of (st_gtr rfl rfl rfl) rfl rfl rfl rfl ?_
  refine rt_nil ?_
  refine tri_cond rfl (fun c7 => ?_) (fun c7 => ?_)
  ·replace h := cond_t h c7
   refine tri_sr ?_
   refine s_loadR rfl rfl rfl rfl ty24 rfl rfl rfl ?_
   refine s_storeB rfl rfl rfl ty24 rfl rfl rfl rfl rfl ?_
   refine s_mv (.inr rfl) (v := .sc (.int .i64 0)) rfl rfl rfl rfl ?_
   refine s_mv (.inr rfl) (v := .sc (.int .i64 1)) rfl rfl rfl rfl ?_
   refine rt_nil ?_
   refine tri_ret ?_
   have e0 := (some3 h).1; have e1 := (some3 h).2.1; have e2 := (some3 h).2.2; subst e0; subst e1; subst e2
   exact endY [] [] (rvC (resCell rfl rfl ty24) (rvC (resTmp rfl) (rvC (resTmp rfl) rvN))) trivial trivial rfl rfl rfl rfl (CvL.tup (.cons (cvAgg rfl) (.cons (.free rfl) (.cons (.free rfl) .nil))))
  ·replace h := cond_f h c7
   refine tri_skip ?_
   refine tri_sr ?_
   refine m1 ?_
   refine m1 ?_
   refine bnd2_elim h fun x8 x9 q10 h => ?_
   refine s_callN (kb := []) (ns := []) (v := .tup [.sc (.int .i64 x8), .sc (.bool x9)]) rfl rfl cl17 (ws_Get2 p0 x2 x8 x9 q10) rfl (.cons (.free rfl) (.cons (.free rfl) .nil)) trivial memNil .nil memNil rfl trivial memNil rfl rfl rfl rfl rfl rfl ?_
   refine m1 ?_
   refine s_extract rfl rfl rfl rfl rfl rfl ?_
   refine s_extract rfl rfl rfl rfl rfl rfl ?_
   refine m2 ?_
   refine m2 ?_
   refine rt_nil ?_
   refine tri_sr ?_
   refine m1 ?_
   refine m1 ?_
   refine grd_elim h fun g11 h => ?_
   refine s_addI rfl rfl rfl rfl g11 rfl rfl rfl ?_
   refine bnd2_elim h fun x12 x13 q14 h => ?_
   refine s_callN (kb := []) (ns := []) (v := .tup [.sc (.int .i64 x12), .sc (.bool x13)]) rfl rfl cl17 (ws_Get2 p0 (x2 + 2) x12 x13 q14) rfl (.cons (.free rfl) (.cons (.free rfl) .nil)) trivial memNil .nil memNil rfl trivial memNil rfl rfl rfl rfl rfl rfl ?_
   refine m1 ?_
   refine s_extract rfl rfl rfl rfl rfl rfl ?_
   refine s_extract rfl rfl rfl rfl rfl rfl ?_
   refine m2 ?_
   refine m2 ?_
   refine rt_nil ?_
   refine tri_sr ?_
   refine m1 ?_
   refine m1 ?_
   refine s_build (cells' := [.sc (.string x1), .sc (.int .i64 x8)]) rfl stc24 rfl rfl rfl rfl rfl rfl rfl ?_
   refine s_alloc rfl rfl rfl zc24 rfl rfl rfl rfl rfl ?_
   refine s_storeB rfl rfl rfl ty24 rfl rfl rfl rfl rfl ?_
   refine rt_nil ?_
   refine tri_seq ?_
   refine tri_cutI (ι := { p : Bool // s_GetQuest_j0 x1 x2 x8 p = some (r0, r1, r2) }) (fun p => inv_s_GetQuest_0 x1 x2 x8 p.1) ?_ ?_
   ·skip
    refine tri_region ?_
    refine s_loadR rfl rfl rfl rfl ty24 rfl rfl rfl ?_
    refine bnd1_elim h fun x15 q16 h => ?_
    refine s_callN (kb := []) (ns := []) (v := .sc (.bool x15)) rfl rfl cl18 (ws_QuestOk (Quest.mk x1 x8) x15 q16) rfl (.cons (relAgg rfl) .nil) trivial memNil .nil memNil rfl trivial memNil rfl rfl rfl rfl rfl rfl ?_
    refine s_of (st_not rfl rfl) rfl rfl rfl rfl ?_
    refine m1 ?_
    refine s_split (t := 53) rfl (fun b17 => ?_) (fun b17 => ?_)
    ·replace h := cond_t h b17
     refine s_skip rfl rfl rfl ?_
     refine s_skip rfl rfl rfl ?_
     refine s_pickT rfl rfl (v := .sc (.bool true)) rfl rfl rfl rfl ?_
     refine rt_nil ?_
     refine Exists.intro ⟨true, h⟩ ?_
     refine entX [((4, 0), ⟨24, 2, [[.sc (.string (⟨#[]⟩ : ByteArray)), .sc (.int .i64 0)]], false, true⟩, some (4, 0)), ((7, 0), ⟨24, 2, [[.sc (.string (⟨#[]⟩ : ByteArray)), .sc (.int .i64 0)]], false, true⟩, some (7, 0)), ((15, 0), ⟨24, 2, [[.sc (.string x1), .sc (.int .i64 x8)]], false, true⟩, some (15, 0))] [] ⟨⟨rfl, _, rfl, rfl, rfl, rfl, id, rowsCv_one (.cons (.free rfl) (.cons (.free rfl) .nil)), rowsZ_one rfl⟩, ⟨rfl, _, rfl, rfl, rfl, rfl, id, rowsCv_one (.cons (.free rfl) (.cons (.free rfl) .nil)), rowsZ_one rfl⟩, ⟨rfl, _, rfl, rfl, rfl, rfl, id, rowsCv_one (.cons (.free rfl) (.cons (.free rfl) .nil)), rowsZ_one rfl⟩, trivial⟩ trivial rfl rfl ?_
     exact ⟨(.ptr rfl), (.ptr rfl), (.free rfl), (.ptr rfl), (.free rfl), trivial⟩
    ·replace h := cond_f h b17
     refine m1 ?_
     refine s_of (st_neI rfl rfl rfl) rfl rfl rfl rfl ?_
     refine s_pickF rfl rfl (by conv => lhs; whnf) rfl rfl rfl ?_
     refine rt_nil ?_
     refine Exists.intro ⟨!decide (x12 = 1), h⟩ ?_
     refine entX [((4, 0), ⟨24, 2, [[.sc (.string (⟨#[]⟩ : ByteArray)), .sc (.int .i64 0)]], false, true⟩, some (4, 0)), ((7, 0), ⟨24, 2, [[.sc (.string (⟨#[]⟩ : ByteArray)), .sc (.int .i64 0)]], false, true⟩, some (7, 0)), ((15, 0), ⟨24, 2, [[.sc (.string x1), .sc (.int .i64 x8)]], false, true⟩, some (15, 0))] [] ⟨⟨rfl, _, rfl, rfl, rfl, rfl, id, rowsCv_one (.cons (.free rfl) (.cons (.free rfl) .nil)), rowsZ_one rfl⟩, ⟨rfl, _, rfl, rfl, rfl, rfl, id, rowsCv_one (.cons (.free rfl) (.cons (.free rfl) .nil)), rowsZ_one rfl⟩, ⟨rfl, _, rfl, rfl, rfl, rfl, id, rowsCv_one (.cons (.free rfl) (.cons (.free rfl) .nil)), rowsZ_one rfl⟩, trivial⟩ trivial rfl rfl ?_
     exact ⟨(.ptr rfl), (.ptr rfl), (.free rfl), (.ptr rfl), (.free rfl), trivial⟩
   ·rintro ⟨j0_0, h⟩
    replace h : s_GetQuest_j0 x1 x2 x8 j0_0 = some (r0, r1, r2) := h
    unfold s_GetQuest_j0 at h
    show Tri _ _ _ (inv_s_GetQuest_0 x1 x2 x8 j0_0)
    refine tri_cond rfl (fun c15 => ?_) (fun c15 => ?_)
    ·replace h := cond_t h c15
     refine tri_sr ?_
     refine s_loadR rfl rfl rfl rfl ty24 rfl rfl rfl ?_
     refine s_storeB rfl rfl rfl ty24 rfl rfl rfl rfl rfl ?_
     refine s_mv (.inr rfl) (v := .sc (.int .i64 0)) rfl rfl rfl rfl ?_
     refine s_mv (.inr rfl) (v := .sc (.int .i64 2)) rfl rfl rfl rfl ?_
     refine rt_nil ?_
     refine tri_ret ?_
     have e0 := (some3 h).1; have e1 := (some3 h).2.1; have e2 := (some3 h).2.2; subst e0; subst e1; subst e2
     exact endY [] [] (rvC (resCell rfl rfl ty24) (rvC (resTmp rfl) (rvC (resTmp rfl) rvN))) trivial trivial rfl rfl rfl rfl (CvL.tup (.cons (cvAgg rfl) (.cons (.free rfl) (.cons (.free rfl) .nil))))
    ·replace h := cond_f h c15
     refine tri_skip ?_
     refine tri_sr ?_
     refine s_loadR rfl rfl rfl rfl ty24 rfl rfl rfl ?_
     refine m1 ?_
     refine grd_elim h fun g16 h => ?_
     refine s_addI rfl rfl rfl rfl g16 rfl rfl rfl ?_
     refine s_storeB rfl rfl rfl ty24 rfl rfl rfl rfl rfl ?_
     refine m2 ?_
     refine s_mv (.inr rfl) (v := .sc (.int .i64 0)) rfl rfl rfl rfl ?_
     refine rt_nil ?_
     refine tri_ret ?_
     have e0 := (some3 h).1; have e1 := (some3 h).2.1; have e2 := (some3 h).2.2; subst e0; subst e1; subst e2
     exact endY [] [] (rvC (resCell rfl rfl ty24) (rvC (resTmp rfl) (rvC (resTmp rfl) rvN))) trivial trivial rfl rfl rfl rfl (CvL.tup (.cons (cvAgg rfl) (.cons (.free rfl) (.cons (.free rfl) .nil))))

/- spec.Get4 -/
def inv_s_Get4_0 (p0 : List Int) (p1 : Int) (j0_0 : Bool) : St := mkT 48 [(0, .lst 1 (List.map byteV p0)), (1, .sc (.int .i64 p1)), (15, .sc (.bool j0_0))] []
set_option maxRecDepth 4000 in
set_option maxHeartbeats 800000 in
theorem ws_Get4 (p0 : List Int) (p1 : Int) (r0 : Int) (r1 : Bool) (h : s_Get4 p0 p1 = some (r0, r1)) : Runs Tryd.prog 51 [.lst 1 (List.map byteV p0), .sc (.int .i64 p1)] [] (.tup [.sc (.int .i64 r0), .sc (.bool r1)]) [] := by
 unfold s_Get4 at h
 refine runsR [.tmp 4, .tmp 5] Tryd.func51 rfl rfl rfl rfl ?_
 rw [Tryd.ntmps51]
 refine tri_sr ?_
 refine s_mv (.inr rfl) (v := .sc (.int .i64 0)) rfl rfl rfl rfl ?_
 refine s_mv (.inr rfl) (v := .sc (.bool false)) rfl rfl rfl rfl ?_
 refine rt_nil ?_
 refine tri_seq ?_
 refine tri_cutI (ι := { p : Bool // s_Get4_j0 p0 p1 p = some (r0, r1) }) (fun p => inv_s_Get4_0 p0 p1 p.1) ?_ ?_
 ·skip
  refine tri_region ?_
  refine m1 ?_
  refine s_of (st_lss rfl rfl rfl) rfl rfl rfl rfl ?_
  refine m1 ?_
  refine s_split (t := 9) rfl (fun b1 => ?_) (fun b1 => ?_)
  ·replace h := cond_t h b1
   refine s_skip rfl rfl rfl ?_
   refine s_skip rfl rfl rfl ?_
   refine s_skip rfl rfl rfl ?_
   refine s_skip rfl rfl rfl ?_
   refine s_skip rfl rfl rfl ?_
   refine s_pickT rfl rfl (v := .sc (.bool true)) rfl rfl rfl rfl ?_
   refine rt_nil ?_
   refine Exists.intro ⟨true, h⟩ ?_
   refine entX [] [] trivial trivial rfl rfl ?_
   exact ⟨(.free rfl), (.free rfl), (.free rfl), trivial⟩
  ·replace h := cond_f h b1
   refine m1 ?_
   refine m1 ?_
   refine s_lenL rfl sl22 rfl rfl rfl rfl ?_
   refine grd_elim h fun g2 h => ?_
   refine s_subI rfl rfl rfl rfl g2 rfl rfl rfl ?_
   refine s_of (st_gtr rfl rfl rfl) rfl rfl rfl rfl ?_
   refine s_pickF rfl rfl (by conv => lhs; whnf) rfl rfl rfl ?_
   refine rt_nil ?_
   refine Exists.intro ⟨decide ((p0.length : Int) - 4 < p1), h⟩ ?_
   refine entX [] [] trivial trivial rfl rfl ?_
   exact ⟨(.free rfl), (.free rfl), (.free rfl), trivial⟩
 ·rintro ⟨j0_0, h⟩
  replace h : s_Get4_j0 p0 p1 j0_0 = some (r0, r1) := h
  unfold s_Get4_j0 at h
  show Tri _ _ _ (inv_s_Get4_0 p0 p1 j0_0)
  refine tri_cond rfl (fun c1 => ?_) (fun c1 => ?_)
  ·replace h := cond_t h c1
   refine tri_sr ?_
   refine s_mv (.inr rfl) (v := .sc (.int .i64 0)) rfl rfl rfl rfl ?_
   refine s_mv (.inr rfl) (v := .sc (.bool false)) rfl rfl rfl rfl ?_
   refine rt_nil ?_
   refine tri_ret ?_
   have e0 := (some2 h).1; have e1 := (some2 h).2; subst e0; subst e1
   exact endY [] [] (rvC (resTmp rfl) (rvC (resTmp rfl) rvN)) trivial trivial rfl rfl rfl rfl (CvL.tup (.cons (.free rfl) (.cons (.free rfl) .nil)))
  ·replace h := cond_f h c1
   refine tri_skip ?_
   refine tri_seq ?_
   refine tri_draw mixed ?_
   refine m1 ?_
   refine m1 ?_
   refine bnd1_elim h fun x2 q3 h => ?_
   have q3a := (idx_some q3).1; have q3b := (idx_some q3).2
   refine s_indexFZ rfl rfl rfl sl22 q3a (get_ltM q3b) rfl rfl rfl ?_
   refine s_loadF rfl rfl (rowG q3b) ty5 rfl (.inr rfl) (by conv => lhs; whnf) rfl rfl rfl ?_
   refine s_of (st_conv ik5 ik3 rfl rfl) rfl rfl rfl rfl ?_
   refine s_of (st_shlD (b := 24) rfl rfl rfl) rfl rfl rfl rfl ?_
   refine m1 ?_
   refine m1 ?_
   refine grd_elim h fun g4 h => ?_
   refine s_addI rfl rfl rfl rfl g4 rfl rfl rfl ?_
   refine bnd1_elim h fun x5 q6 h => ?_
   have q6a := (idx_some q6).1; have q6b := (idx_some q6).2
   refine s_indexFZ rfl rfl rfl sl22 q6a (get_ltM q6b) rfl rfl rfl ?_
   refine s_loadF rfl rfl (rowG q6b) ty5 rfl (.inr rfl) (by conv => lhs; whnf) rfl rfl rfl ?_
   refine s_of (st_conv ik5 ik3 rfl rfl) rfl rfl rfl rfl ?_
   refine s_of (st_shlD (b := 16) rfl rfl rfl) rfl rfl rfl rfl ?_
   refine s_of (st_orD rfl rfl rfl) rfl rfl rfl rfl ?_
   refine m1 ?_
   refine m1 ?_
   refine grd_elim h fun g7 h => ?_
   refine s_addI rfl rfl rfl rfl g7 rfl rfl rfl ?_
   refine bnd1_elim h fun x8 q9 h => ?_
   have q9a := (idx_some q9).1; have q9b := (idx_some q9).2
   refine s_indexFZ rfl rfl rfl sl22 q9a (get_ltM q9b) rfl rfl rfl ?_
   refine s_loadF rfl rfl (rowG q9b) ty5 rfl (.inr rfl) (by conv => lhs; whnf) rfl rfl rfl ?_
   refine s_of (st_conv ik5 ik3 rfl rfl) rfl rfl rfl rfl ?_
   refine s_of (st_shlD (b := 8) rfl rfl rfl) rfl rfl rfl rfl ?_
   refine s_of (st_orD rfl rfl rfl) rfl rfl rfl rfl ?_
   refine m1 ?_
   refine m1 ?_
   refine grd_elim h fun g10 h => ?_
   refine s_addI rfl rfl rfl rfl g10 rfl rfl rfl ?_
   refine bnd1_elim h fun x11 q12 h => ?_
   have q12a := (idx_some q12).1; have q12b := (idx_some q12).2
   refine s_indexFZ rfl rfl rfl sl22 q12a (get_ltM q12b) rfl rfl rfl ?_
   refine s_loadF rfl rfl (rowG q12b) ty5 rfl (.inr rfl) (by conv => lhs; whnf) rfl rfl rfl ?_
   refine s_of (st_conv ik5 ik3 rfl rfl) rfl rfl rfl rfl ?_
   refine s_of (st_orD rfl rfl rfl) rfl rfl rfl rfl ?_
   refine m2 ?_
   refine rt_nil ⟨by kernel_rfl, ?_⟩
   refine tri_seq ?_
   refine tri_sr ?_
   refine m1 ?_
   refine s_of (st_gtr rfl rfl rfl) rfl rfl rfl rfl ?_
   refine rt_nil ?_
   refine tri_cond rfl (fun c13 => ?_) (fun c13 => ?_)
   ·replace h := cond_t h c13
    refine tri_sr ?_
    refine s_mv (.inr rfl) (v := .sc (.int .i64 0)) rfl rfl rfl rfl ?_
    refine s_mv (.inr rfl) (v := .sc (.bool false)) rfl rfl rfl rfl ?_
    refine rt_nil ?_
    refine tri_ret ?_
    have e0 := (some2 h).1; have e1 := (some2 h).2; subst e0; subst e1
    exact endY [] [] (rvC (resTmp rfl) (rvC (resTmp rfl) rvN)) trivial trivial rfl rfl rfl rfl (CvL.tup (.cons (.free rfl) (.cons (.free rfl) .nil)))
   ·replace h := cond_f h c13
    refine tri_skip ?_
    refine tri_sr ?_
    refine m1 ?_
    refine m2 ?_
    refine s_mv (.inr rfl) (v := .sc (.bool true)) rfl rfl rfl rfl ?_
    refine rt_nil ?_
    refine tri_ret ?_
    have e0 := (some2 h).1; have e1 := (some2 h).2; subst e0; subst e1
    exact endY [] [] (rvC (resTmp rfl) (rvC (resTmp rfl) rvN)) trivial trivial rfl rfl rfl rfl (CvL.tup (.cons (.free rfl) (.cons (.free rfl) .nil)))

/- spec.l5Text -/
def inv_s_l5Text_1 (p0 : ByteArray) (v1_0 : Int) : St := mkT 19 [(0, .sc (.string p0)), (3, .sc (.int .i64 v1_0))] []
def inv_s_l5Text_0 (p0 : ByteArray) : St := mkT 19 [(0, .sc (.string p0))] []
set_option maxRecDepth 4000 in
set_option maxHeartbeats 800000 in
theorem ws_l5Text (p0 : ByteArray) (r0 : Bool) (h : s_l5Text p0 = some r0) : Runs Tryd.prog 63 [.sc (.string p0)] [] (.sc (.bool r0)) [] := by
 unfold s_l5Text at h
 refine runsR [.tmp 2] Tryd.func63 rfl rfl rfl rfl ?_
 rw [Tryd.ntmps63]
 refine tri_sr ?_
 refine s_mv (.inr rfl) (v := .sc (.bool false)) rfl rfl rfl rfl ?_
 refine rt_nil ?_
 refine tri_cutI (ι := { p : Unit // s_l5Text_j0 p0 = some r0 }) (fun p => inv_s_l5Text_0 p0) ?_ ?_
 ·skip
  refine tri_sr ?_
  refine s_mv (.inr rfl) (v := .sc (.int .i64 0)) rfl rfl rfl rfl ?_
  refine rt_nil ?_
  refine tri_block ?_
  refine tri_loop (ι := { p : Nat × Int // s_l5Text_l1 p0 p.1 p.2 = some r0 }) (fun p => inv_s_l5Text_1 p0 p.1.2) (fun p => p.1.1) ⟨(fuel0, 0), h⟩ ?_ ?_
  ·skip
   refine entX [] [] trivial trivial rfl rfl ?_
   exact ⟨(.free rfl), (.free rfl), trivial⟩
  ·rintro ⟨⟨f1, v1_0⟩, h⟩
   replace h : s_l5Text_l1 p0 f1 v1_0 = some r0 := h
   cases f1 with
   | zero => cases h
   | succ f1 =>
   rw [s_l5Text_l1] at h
   show Tri _ _ _ (inv_s_l5Text_1 p0 v1_0)
   refine tri_seq ?_
   refine tri_sr ?_
   refine m1 ?_
   refine m1 ?_
   refine s_of (st_lenS rfl rfl iss9) rfl rfl rfl rfl ?_
   refine s_of (st_lss rfl rfl rfl) rfl rfl rfl rfl ?_
   refine rt_nil ?_
   refine tri_cond rfl (fun c1 => ?_) (fun c1 => ?_)
   ·replace h := cond_t h c1
    refine tri_skip ?_
    refine tri_seq ?_
    refine tri_block ?_
    refine tri_sr ?_
    refine m1 ?_
    refine m1 ?_
    refine bnd1_elim h fun x2 q3 h => ?_
    refine s_idxS rfl rfl rfl iss9 q3 rfl rfl rfl ?_
    refine s_of (st_conv ik5 ik3 rfl rfl) rfl rfl rfl rfl ?_
    refine bnd1_elim h fun x4 q5 h => ?_
    refine s_callN (kb := []) (ns := []) (v := .sc (.bool x4)) rfl rfl cl36 (ws_l1In (IntKind.i64.wrap x2) 33 126 x4 q5) rfl (.cons (.free rfl) (.cons (.free rfl) (.cons (.free rfl) .nil))) trivial memNil .nil memNil rfl trivial memNil rfl rfl rfl rfl rfl rfl ?_
    refine s_of (st_not rfl rfl) rfl rfl rfl rfl ?_
    refine rt_nil ?_
    refine tri_cond rfl (fun c6 => ?_) (fun c6 => ?_)
    ·replace h := cond_t h c6
     refine tri_sr ?_
     refine s_mv (.inr rfl) (v := .sc (.bool false)) rfl rfl rfl rfl ?_
     refine rt_nil ?_
     refine tri_ret ?_
     have e0 := (some1 h); subst e0
     exact endY [] [] (rvC (resTmp rfl) rvN) trivial trivial rfl rfl rfl rfl (.free rfl)
    ·replace h := cond_f h c6
     refine tri_skip ?_
     refine tri_region ?_
     refine m1 ?_
     refine grd_elim h fun g7 h => ?_
     refine s_addI rfl rfl rfl rfl g7 rfl rfl rfl ?_
     refine m2 ?_
     refine rt_nil ?_
     refine Exists.intro ⟨(f1, v1_0 + 1), h⟩ (And.intro (Nat.lt_succ_self _) ?_)
     refine entX [] [] trivial trivial rfl rfl ?_
     exact ⟨(.free rfl), (.free rfl), trivial⟩
   ·replace h := cond_f h c1
    refine tri_exit ?_
    refine Exists.intro ⟨(), h⟩ ?_
    refine entX [] [] trivial trivial rfl rfl ?_
    exact ⟨(.free rfl), trivial⟩
 ·rintro ⟨u, h⟩
  replace h : s_l5Text_j0 p0 = some r0 := h
  unfold s_l5Text_j0 at h
  show Tri _ _ _ (inv_s_l5Text_0 p0)
  refine tri_sr ?_
  refine m1 ?_
  refine s_of (st_lenS rfl rfl iss9) rfl rfl rfl rfl ?_
  refine s_of (st_leq rfl rfl rfl) rfl rfl rfl rfl ?_
  refine m2 ?_
  refine rt_nil ?_
  refine tri_ret ?_
  have e0 := (some1 h); subst e0
  exact endY [] [] (rvC (resTmp rfl) rvN) trivial trivial rfl rfl rfl rfl (.free rfl)

/- spec.GetData -/
def inv_s_GetData_1  (j1_0 : Bool) : St := mkT 139 [(8, .ptr (8, 0) 0 0), (10, .ptr (10, 0) 0 0), (42, .sc (.bool j1_0))] [((8, 0), some ⟨62, 6, [[.sc (.string (⟨#[]⟩ : ByteArray)), .sc (.int .i64 0), .sc (.int .i64 0), .sc (.int .i64 0), .sc (.string (⟨#[]⟩ : ByteArray)), .sc (.string (⟨#[]⟩ : ByteArray))]], false, true⟩), ((10, 0), some ⟨62, 6, [[.sc (.string (⟨#[]⟩ : ByteArray)), .sc (.int .i64 0), .sc (.int .i64 0), .sc (.int .i64 0), .sc (.string (⟨#[]⟩ : ByteArray)), .sc (.string (⟨#[]⟩ : ByteArray))]], false, true⟩)]
def inv_s_GetData_3 (p3 : Int) (x10 : Int) (j3_0 : Bool) : St := mkT 139 [(8, .ptr (8, 0) 0 0), (10, .ptr (10, 0) 0 0), (11, .ptr (11, 0) 0 0), (109, .sc (.bool j3_0))] [((8, 0), some ⟨62, 6, [[.sc (.string (⟨#[]⟩ : ByteArray)), .sc (.int .i64 0), .sc (.int .i64 0), .sc (.int .i64 0), .sc (.string (⟨#[]⟩ : ByteArray)), .sc (.string (⟨#[]⟩ : ByteArray))]], false, true⟩), ((10, 0), some ⟨62, 6, [[.sc (.string (⟨#[]⟩ : ByteArray)), .sc (.int .i64 0), .sc (.int .i64 0), .sc (.int .i64 0), .sc (.string (⟨#[]⟩ : ByteArray)), .sc (.string (⟨#[]⟩ : ByteArray))]], false, true⟩), ((11, 0), some ⟨62, 6, [[.sc (.string (⟨#[]⟩ : ByteArray)), .sc (.int .i64 p3), .sc (.int .i64 0), .sc (.int .i64 x10), .sc (.string (⟨#[]⟩ : ByteArray)), .sc (.string (⟨#[]⟩ : ByteArray))]], false, true⟩)]
def inv_s_GetData_4 (p0 : List Int) (p1 : Int) (p2 : Int) (p3 : Int) (j4_0 : Bool) : St := mkT 139 [(0, .lst 1 (List.map byteV p0)), (1, .sc (.int .i64 p1)), (8, .ptr (8, 0) 0 0), (10, .ptr (10, 0) 0 0), (11, .ptr (11, 0) 0 0), (12, .sc (.int .i64 (p1 + p2))), (124, .sc (.bool j4_0))] [((8, 0), some ⟨62, 6, [[.sc (.string (⟨#[]⟩ : ByteArray)), .sc (.int .i64 0), .sc (.int .i64 0), .sc (.int .i64 0), .sc (.string (⟨#[]⟩ : ByteArray)), .sc (.string (⟨#[]⟩ : ByteArray))]], false, true⟩), ((10, 0), some ⟨62, 6, [[.sc (.string (⟨#[]⟩ : ByteArray)), .sc (.int .i64 0), .sc (.int .i64 0), .sc (.int .i64 0), .sc (.string (⟨#[]⟩ : ByteArray)), .sc (.string (⟨#[]⟩ : ByteArray))]], false, true⟩), ((11, 0), some ⟨62, 6, [[.sc (.string (⟨#[]⟩ : ByteArray)), .sc (.int .i64 p3), .sc (.int .i64 0), .sc (.int .i64 0), .sc (.string (⟨#[]⟩ : ByteArray)), .sc (.string (⟨#[]⟩ : ByteArray))]], false, true⟩)]
def inv_s_GetData_5 (p1 : Int) (p2 : Int) (p3 : Int) (x21 : ByteArray) (j5_0 : Int) (j5_1 : Int) : St := mkT 139 [(8, .ptr (8, 0) 0 0), (10, .ptr (10, 0) 0 0), (11, .ptr (11, 0) 0 0), (12, .sc (.int .i64 (p1 + p2))), (16, .sc (.int .i64 j5_1))] [((8, 0), some ⟨62, 6, [[.sc (.string (⟨#[]⟩ : ByteArray)), .sc (.int .i64 0), .sc (.int .i64 0), .sc (.int .i64 0), .sc (.string (⟨#[]⟩ : ByteArray)), .sc (.string (⟨#[]⟩ : ByteArray))]], false, true⟩), ((10, 0), some ⟨62, 6, [[.sc (.string (⟨#[]⟩ : ByteArray)), .sc (.int .i64 0), .sc (.int .i64 0), .sc (.int .i64 0), .sc (.string (⟨#[]⟩ : ByteArray)), .sc (.string (⟨#[]⟩ : ByteArray))]], false, true⟩), ((11, 0), some ⟨62, 6, [[.sc (.string (⟨#[]⟩ : ByteArray)), .sc (.int .i64 p3), .sc (.int .i64 0), .sc (.int .i64 j5_0), .sc (.string x21), .sc (.string (⟨#[]⟩ : ByteArray))]], false, true⟩)]
def inv_s_GetData_2 (p0 : List Int) (p1 : Int) (p2 : Int) (p3 : Int) (j2_0 : Bool) : St := mkT 139 [(0, .lst 1 (List.map byteV p0)), (1, .sc (.int .i64 p1)), (2, .sc (.int .i64 p2)), (3, .sc (.int .i64 p3)), (8, .ptr (8, 0) 0 0), (10, .ptr (10, 0) 0 0), (54, .sc (.bool j2_0))] [((8, 0), some ⟨62, 6, [[.sc (.string (⟨#[]⟩ : ByteArray)), .sc (.int .i64 0), .sc (.int .i64 0), .sc (.int .i64 0), .sc (.string (⟨#[]⟩ : ByteArray)), .sc (.string (⟨#[]⟩ : ByteArray))]], false, true⟩), ((10, 0), some ⟨62, 6, [[.sc (.string (⟨#[]⟩ : ByteArray)), .sc (.int .i64 0), .sc (.int .i64 0), .sc (.int .i64 0), .sc (.string (⟨#[]⟩ : ByteArray)), .sc (.string (⟨#[]⟩ : ByteArray))]], false, true⟩)]
def inv_s_GetData_0 (p0 : List Int) (p1 : Int) (p2 : Int) (p3 : Int) (j0_0 : Bool) : St := mkT 139 [(0, .lst 1 (List.map byteV p0)), (1, .sc (.int .i64 p1)), (2, .sc (.int .i64 p2)), (3, .sc (.int .i64 p3)), (8, .ptr (8, 0) 0 0), (10, .ptr (10, 0) 0 0), (28, .sc (.bool j0_0))] [((8, 0), some ⟨62, 6, [[.sc (.string (⟨#[]⟩ : ByteArray)), .sc (.int .i64 0), .sc (.int .i64 0), .sc (.int .i64 0), .sc (.string (⟨#[]⟩ : ByteArray)), .sc (.string (⟨#[]⟩ : ByteArray))]], false, true⟩), ((10, 0), some ⟨62, 6, [[.sc (.string (⟨#[]⟩ : ByteArray)), .sc (.int .i64 0), .sc (.int .i64 0), .sc (.int .i64 0), .sc (.string (⟨#[]⟩ : ByteArray)), .sc (.string (⟨#[]⟩ : ByteArray))]], false, true⟩)]
set_option maxRecDepth 4000 in
set_option maxHeartbeats 800000 in
theorem ws_GetData (p0 : List Int) (p1 : Int) (p2 : Int) (p3 : Int) (r0 : Rec) (r1 : Int) (h : s_GetData p0 p1 p2 p3 = some (r0, r1)) : Runs Tryd.prog 52 [.lst 1 (List.map byteV p0), .sc (.int .i64 p1), .sc (.int .i64 p2), .sc (.int .i64 p3)] [] (.tup [.agg (recV r0), .sc (.int .i64 r1)]) [] := by
 unfold s_GetData at h
 refine runsR [.cell 8 62, .tmp 9] Tryd.func52 rfl rfl rfl rfl ?_
 rw [Tryd.ntmps52]
 refine tri_sr ?_
 refine s_alloc rfl rfl rfl zc62 rfl rfl rfl rfl rfl ?_
 refine s_mv (.inr rfl) (v := .sc (.int .i64 0)) rfl rfl rfl rfl ?_
 refine rt_nil ?_
 refine tri_sr ?_
 refine s_build (cells' := [.sc (.string (⟨#[]⟩ : ByteArray)), .sc (.int .i64 0), .sc (.int .i64 0), .sc (.int .i64 0), .sc (.string (⟨#[]⟩ : ByteArray)), .sc (.string (⟨#[]⟩ : ByteArray))]) rfl stc62 rfl rfl rfl rfl rfl rfl rfl ?_
 refine s_alloc rfl rfl rfl zc62 rfl rfl rfl rfl rfl ?_
 refine s_storeB rfl rfl rfl ty62 rfl rfl rfl rfl rfl ?_
 refine rt_nil ?_
 refine tri_seq ?_
 refine tri_cutI (ι := { p : Bool // s_GetData_j0 p0 p1 p2 p3 p = some (r0, r1) }) (fun p => inv_s_GetData_0 p0 p1 p2 p3 p.1) ?_ ?_
 ·skip
  refine tri_region ?_
  refine m1 ?_
  refine bnd1_elim h fun x1 q2 h => ?_
  refine s_callN (kb := []) (ns := []) (v := .sc (.bool x1)) rfl rfl cl36 (ws_l1In p2 0 255 x1 q2) rfl (.cons (.free rfl) (.cons (.free rfl) (.cons (.free rfl) .nil))) trivial memNil .nil memNil rfl trivial memNil rfl rfl rfl rfl rfl rfl ?_
  refine s_of (st_not rfl rfl) rfl rfl rfl rfl ?_
  refine m1 ?_
  refine s_split (t := 24) rfl (fun b3 => ?_) (fun b3 => ?_)
  ·replace h := cond_t h b3
   refine s_skip rfl rfl rfl ?_
   refine s_skip rfl rfl rfl ?_
   refine s_skip rfl rfl rfl ?_
   refine s_pickT rfl rfl (v := .sc (.bool true)) rfl rfl rfl rfl ?_
   refine rt_nil ?_
   refine Exists.intro ⟨true, h⟩ ?_
   refine entX [((8, 0), ⟨62, 6, [[.sc (.string (⟨#[]⟩ : ByteArray)), .sc (.int .i64 0), .sc (.int .i64 0), .sc (.int .i64 0), .sc (.string (⟨#[]⟩ : ByteArray)), .sc (.string (⟨#[]⟩ : ByteArray))]], false, true⟩, some (8, 0)), ((10, 0), ⟨62, 6, [[.sc (.string (⟨#[]⟩ : ByteArray)), .sc (.int .i64 0), .sc (.int .i64 0), .sc (.int .i64 0), .sc (.string (⟨#[]⟩ : ByteArray)), .sc (.string (⟨#[]⟩ : ByteArray))]], false, true⟩, some (10, 0))] [] ⟨⟨rfl, _, rfl, rfl, rfl, rfl, id, rowsCv_one (.cons (.free rfl) (.cons (.free rfl) (.cons (.free rfl) (.cons (.free rfl) (.cons (.free rfl) (.cons (.free rfl) .nil)))))), rowsZ_one rfl⟩, ⟨rfl, _, rfl, rfl, rfl, rfl, id, rowsCv_one (.cons (.free rfl) (.cons (.free rfl) (.cons (.free rfl) (.cons (.free rfl) (.cons (.free rfl) (.cons (.free rfl) .nil)))))), rowsZ_one rfl⟩, trivial⟩ trivial rfl rfl ?_
   exact ⟨(.free rfl), (.free rfl), (.free rfl), (.free rfl), (.ptr rfl), (.ptr rfl), (.free rfl), trivial⟩
  ·replace h := cond_f h b3
   refine m1 ?_
   refine bnd1_elim h fun x4 q5 h => ?_
   refine s_callN (kb := []) (ns := []) (v := .sc (.bool x4)) rfl rfl cl31 (ws_TypeOk p3 x4 q5) rfl (.cons (.free rfl) .nil) trivial memNil .nil memNil rfl trivial memNil rfl rfl rfl rfl rfl rfl ?_
   refine s_of (st_not rfl rfl) rfl rfl rfl rfl ?_
   refine s_pickF rfl rfl (by conv => lhs; whnf) rfl rfl rfl ?_
   refine rt_nil ?_
   refine Exists.intro ⟨!x4, h⟩ ?_
   refine entX [((8, 0), ⟨62, 6, [[.sc (.string (⟨#[]⟩ : ByteArray)), .sc (.int .i64 0), .sc (.int .i64 0), .sc (.int .i64 0), .sc (.string (⟨#[]⟩ : ByteArray)), .sc (.string (⟨#[]⟩ : ByteArray))]], false, true⟩, some (8, 0)), ((10, 0), ⟨62, 6, [[.sc (.string (⟨#[]⟩ : ByteArray)), .sc (.int .i64 0), .sc (.int .i64 0), .sc (.int .i64 0), .sc (.string (⟨#[]⟩ : ByteArray)), .sc (.string (⟨#[]⟩ : ByteArray))]], false, true⟩, some (10, 0))] [] ⟨⟨rfl, _, rfl, rfl, rfl, rfl, id, rowsCv_one (.cons (.free rfl) (.cons (.free rfl) (.cons (.free rfl) (.cons (.free rfl) (.cons (.free rfl) (.cons (.free rfl) .nil)))))), rowsZ_one rfl⟩, ⟨rfl, _, rfl, rfl, rfl, rfl, id, rowsCv_one (.cons (.free rfl) (.cons (.free rfl) (.cons (.free rfl) (.cons (.free rfl) (.cons (.free rfl) (.cons (.free rfl) .nil)))))), rowsZ_one rfl⟩, trivial⟩ trivial rfl rfl ?_
   exact ⟨(.free rfl), (.free rfl), (.free rfl), (.free rfl), (.ptr rfl), (.ptr rfl), (.free rfl), trivial⟩
 ·rintro ⟨j0_0, h⟩
  replace h : s_GetData_j0 p0 p1 p2 p3 j0_0 = some (r0, r1) := h
  unfold s_GetData_j0 at h
  show Tri _ _ _ (inv_s_GetData_0 p0 p1 p2 p3 j0_0)
  refine tri_cond rfl (fun c1 => ?_) (fun c1 => ?_)
  ·replace h := cond_t h c1
   refine tri_seq ?_
   refine tri_cutI (ι := { p : Bool // s_GetData_j1 p = some (r0, r1) }) (fun p => inv_s_GetData_1 p.1) ?_ ?_
   ·skip
    refine tri_region ?_
    refine m1 ?_
    refine bnd1_elim h fun x2 q3 h => ?_
    refine s_callN (kb := []) (ns := []) (v := .sc (.bool x2)) rfl rfl cl36 (ws_l1In p2 0 255 x2 q3) rfl (.cons (.free rfl) (.cons (.free rfl) (.cons (.free rfl) .nil))) trivial memNil .nil memNil rfl trivial memNil rfl rfl rfl rfl rfl rfl ?_
    refine m1 ?_
    refine s_split (t := 31) rfl (fun b4 => ?_) (fun b4 => ?_)
    ·replace h := cond_t h b4
     refine m1 ?_
     refine s_of (st_lss rfl rfl rfl) rfl rfl rfl rfl ?_
     refine m1 ?_
     refine s_split (t := 34) rfl (fun b5 => ?_) (fun b5 => ?_)
     ·replace h := cond_t h b5
      refine s_skip rfl rfl rfl ?_
      refine s_skip rfl rfl rfl ?_
      refine s_skip rfl rfl rfl ?_
      refine s_skip rfl rfl rfl ?_
      refine s_skip rfl rfl rfl ?_
      refine s_skip rfl rfl rfl ?_
      refine s_pickT rfl rfl (v := .sc (.bool true)) rfl rfl rfl rfl ?_
      refine s_pickT rfl rfl (by conv => lhs; whnf) rfl rfl rfl ?_
      refine rt_nil ?_
      refine Exists.intro ⟨true, h⟩ ?_
      refine entX [((8, 0), ⟨62, 6, [[.sc (.string (⟨#[]⟩ : ByteArray)), .sc (.int .i64 0), .sc (.int .i64 0), .sc (.int .i64 0), .sc (.string (⟨#[]⟩ : ByteArray)), .sc (.string (⟨#[]⟩ : ByteArray))]], false, true⟩, some (8, 0)), ((10, 0), ⟨62, 6, [[.sc (.string (⟨#[]⟩ : ByteArray)), .sc (.int .i64 0), .sc (.int .i64 0), .sc (.int .i64 0), .sc (.string (⟨#[]⟩ : ByteArray)), .sc (.string (⟨#[]⟩ : ByteArray))]], false, true⟩, some (10, 0))] [] ⟨⟨rfl, _, rfl, rfl, rfl, rfl, id, rowsCv_one (.cons (.free rfl) (.cons (.free rfl) (.cons (.free rfl) (.cons (.free rfl) (.cons (.free rfl) (.cons (.free rfl) .nil)))))), rowsZ_one rfl⟩, ⟨rfl, _, rfl, rfl, rfl, rfl, id, rowsCv_one (.cons (.free rfl) (.cons (.free rfl) (.cons (.free rfl) (.cons (.free rfl) (.cons (.free rfl) (.cons (.free rfl) .nil)))))), rowsZ_one rfl⟩, trivial⟩ trivial rfl rfl ?_
      exact ⟨(.ptr rfl), (.ptr rfl), (.free rfl), trivial⟩
     ·replace h := cond_f h b5
      refine m1 ?_
      refine m1 ?_
      refine s_lenL rfl sl22 rfl rfl rfl rfl ?_
      refine m1 ?_
      refine grd_elim h fun g6 h => ?_
      refine s_subI rfl rfl rfl rfl g6 rfl rfl rfl ?_
      refine s_of (st_gtr rfl rfl rfl) rfl rfl rfl rfl ?_
      refine s_pickF rfl rfl (by conv => lhs; whnf) rfl rfl rfl ?_
      refine s_pickT rfl rfl (by conv => lhs; whnf) rfl rfl rfl ?_
      refine rt_nil ?_
      refine Exists.intro ⟨decide ((p0.length : Int) - p2 < p1), h⟩ ?_
      refine entX [((8, 0), ⟨62, 6, [[.sc (.string (⟨#[]⟩ : ByteArray)), .sc (.int .i64 0), .sc (.int .i64 0), .sc (.int .i64 0), .sc (.string (⟨#[]⟩ : ByteArray)), .sc (.string (⟨#[]⟩ : ByteArray))]], false, true⟩, some (8, 0)), ((10, 0), ⟨62, 6, [[.sc (.string (⟨#[]⟩ : ByteArray)), .sc (.int .i64 0), .sc (.int .i64 0), .sc (.int .i64 0), .sc (.string (⟨#[]⟩ : ByteArray)), .sc (.string (⟨#[]⟩ : ByteArray))]], false, true⟩, some (10, 0))] [] ⟨⟨rfl, _, rfl, rfl, rfl, rfl, id, rowsCv_one (.cons (.free rfl) (.cons (.free rfl) (.cons (.free rfl) (.cons (.free rfl) (.cons (.free rfl) (.cons (.free rfl) .nil)))))), rowsZ_one rfl⟩, ⟨rfl, _, rfl, rfl, rfl, rfl, id, rowsCv_one (.cons (.free rfl) (.cons (.free rfl) (.cons (.free rfl) (.cons (.free rfl) (.cons (.free rfl) (.cons (.free rfl) .nil)))))), rowsZ_one rfl⟩, trivial⟩ trivial rfl rfl ?_
      exact ⟨(.ptr rfl), (.ptr rfl), (.free rfl), trivial⟩
    ·replace h := cond_f h b4
     refine s_skip rfl rfl rfl ?_
     refine s_skip rfl rfl rfl ?_
     refine s_skip rfl rfl rfl ?_
     refine s_skip rfl rfl rfl ?_
     refine s_skip rfl rfl rfl ?_
     refine s_skip rfl rfl rfl ?_
     refine s_skip rfl rfl rfl ?_
     refine s_skip rfl rfl rfl ?_
     refine s_skip rfl rfl rfl ?_
     refine s_skip rfl rfl rfl ?_
     refine s_pickF rfl rfl (v := .sc (.bool false)) rfl rfl rfl rfl ?_
     refine rt_nil ?_
     refine Exists.intro ⟨false, h⟩ ?_
     refine entX [((8, 0), ⟨62, 6, [[.sc (.string (⟨#[]⟩ : ByteArray)), .sc (.int .i64 0), .sc (.int .i64 0), .sc (.int .i64 0), .sc (.string (⟨#[]⟩ : ByteArray)), .sc (.string (⟨#[]⟩ : ByteArray))]], false, true⟩, some (8, 0)), ((10, 0), ⟨62, 6, [[.sc (.string (⟨#[]⟩ : ByteArray)), .sc (.int .i64 0), .sc (.int .i64 0), .sc (.int .i64 0), .sc (.string (⟨#[]⟩ : ByteArray)), .sc (.string (⟨#[]⟩ : ByteArray))]], false, true⟩, some (10, 0))] [] ⟨⟨rfl, _, rfl, rfl, rfl, rfl, id, rowsCv_one (.cons (.free rfl) (.cons (.free rfl) (.cons (.free rfl) (.cons (.free rfl) (.cons (.free rfl) (.cons (.free rfl) .nil)))))), rowsZ_one rfl⟩, ⟨rfl, _, rfl, rfl, rfl, rfl, id, rowsCv_one (.cons (.free rfl) (.cons (.free rfl) (.cons (.free rfl) (.cons (.free rfl) (.cons (.free rfl) (.cons (.free rfl) .nil)))))), rowsZ_one rfl⟩, trivial⟩ trivial rfl rfl ?_
     exact ⟨(.ptr rfl), (.ptr rfl), (.free rfl), trivial⟩
   ·rintro ⟨j1_0, h⟩
    replace h : s_GetData_j1 j1_0 = some (r0, r1) := h
    unfold s_GetData_j1 at h
    show Tri _ _ _ (inv_s_GetData_1 j1_0)
    refine tri_cond rfl (fun c2 => ?_) (fun c2 => ?_)
    ·replace h := cond_t h c2
     refine tri_sr ?_
     refine s_loadR rfl rfl rfl rfl ty62 rfl rfl rfl ?_
     refine s_storeB rfl rfl rfl ty62 rfl rfl rfl rfl rfl ?_
     refine s_mv (.inr rfl) (v := .sc (.int .i64 1)) rfl rfl rfl rfl ?_
     refine rt_nil ?_
     refine tri_ret ?_
     have e0 := (some2 h).1; have e1 := (some2 h).2; subst e0; subst e1
     exact endY [] [] (rvC (resCell rfl rfl ty62) (rvC (resTmp rfl) rvN)) trivial trivial rfl rfl rfl rfl (CvL.tup (.cons (cvAgg rfl) (.cons (.free rfl) .nil)))
    ·replace h := cond_f h c2
     refine tri_skip ?_
     refine tri_sr ?_
     refine s_loadR rfl rfl rfl rfl ty62 rfl rfl rfl ?_
     refine s_storeB rfl rfl rfl ty62 rfl rfl rfl rfl rfl ?_
     refine s_mv (.inr rfl) (v := .sc (.int .i64 2)) rfl rfl rfl rfl ?_
     refine rt_nil ?_
     refine tri_ret ?_
     have e0 := (some2 h).1; have e1 := (some2 h).2; subst e0; subst e1
     exact endY [] [] (rvC (resCell rfl rfl ty62) (rvC (resTmp rfl) rvN)) trivial trivial rfl rfl rfl rfl (CvL.tup (.cons (cvAgg rfl) (.cons (.free rfl) .nil)))
  ·replace h := cond_f h c1
   refine tri_skip ?_
   refine tri_seq ?_
   refine tri_cutI (ι := { p : Bool // s_GetData_j2 p0 p1 p2 p3 p = some (r0, r1) }) (fun p => inv_s_GetData_2 p0 p1 p2 p3 p.1) ?_ ?_
   ·skip
    refine tri_region ?_
    refine m1 ?_
    refine s_of (st_lss rfl rfl rfl) rfl rfl rfl rfl ?_
    refine m1 ?_
    refine s_split (t := 47) rfl (fun b7 => ?_) (fun b7 => ?_)
    ·replace h := cond_t h b7
     refine s_skip rfl rfl rfl ?_
     refine s_skip rfl rfl rfl ?_
     refine s_skip rfl rfl rfl ?_
     refine s_skip rfl rfl rfl ?_
     refine s_skip rfl rfl rfl ?_
     refine s_skip rfl rfl rfl ?_
     refine s_pickT rfl rfl (v := .sc (.bool true)) rfl rfl rfl rfl ?_
     refine rt_nil ?_
     refine Exists.intro ⟨true, h⟩ ?_
     refine entX [((8, 0), ⟨62, 6, [[.sc (.string (⟨#[]⟩ : ByteArray)), .sc (.int .i64 0), .sc (.int .i64 0), .sc (.int .i64 0), .sc (.string (⟨#[]⟩ : ByteArray)), .sc (.string (⟨#[]⟩ : ByteArray))]], false, true⟩, some (8, 0)), ((10, 0), ⟨62, 6, [[.sc (.string (⟨#[]⟩ : ByteArray)), .sc (.int .i64 0), .sc (.int .i64 0), .sc (.int .i64 0), .sc (.string (⟨#[]⟩ : ByteArray)), .sc (.string (⟨#[]⟩ : ByteArray))]], false, true⟩, some (10, 0))] [] ⟨⟨rfl, _, rfl, rfl, rfl, rfl, id, rowsCv_one (.cons (.free rfl) (.cons (.free rfl) (.cons (.free rfl) (.cons (.free rfl) (.cons (.free rfl) (.cons (.free rfl) .nil)))))), rowsZ_one rfl⟩, ⟨rfl, _, rfl, rfl, rfl, rfl, id, rowsCv_one (.cons (.free rfl) (.cons (.free rfl) (.cons (.free rfl) (.cons (.free rfl) (.cons (.free rfl) (.cons (.free rfl) .nil)))))), rowsZ_one rfl⟩, trivial⟩ trivial rfl rfl ?_
     exact ⟨(.free rfl), (.free rfl), (.free rfl), (.free rfl), (.ptr rfl), (.ptr rfl), (.free rfl), trivial⟩
    ·replace h := cond_f h b7
     refine m1 ?_
     refine m1 ?_
     refine s_lenL rfl sl22 rfl rfl rfl rfl ?_
     refine m1 ?_
     refine grd_elim h fun g8 h => ?_
     refine s_subI rfl rfl rfl rfl g8 rfl rfl rfl ?_
     refine s_of (st_gtr rfl rfl rfl) rfl rfl rfl rfl ?_
     refine s_pickF rfl rfl (by conv => lhs; whnf) rfl rfl rfl ?_
     refine rt_nil ?_
     refine Exists.intro ⟨decide ((p0.length : Int) - p2 < p1), h⟩ ?_
     refine entX [((8, 0), ⟨62, 6, [[.sc (.string (⟨#[]⟩ : ByteArray)), .sc (.int .i64 0), .sc (.int .i64 0), .sc (.int .i64 0), .sc (.string (⟨#[]⟩ : ByteArray)), .sc (.string (⟨#[]⟩ : ByteArray))]], false, true⟩, some (8, 0)), ((10, 0), ⟨62, 6, [[.sc (.string (⟨#[]⟩ : ByteArray)), .sc (.int .i64 0), .sc (.int .i64 0), .sc (.int .i64 0), .sc (.string (⟨#[]⟩ : ByteArray)), .sc (.string (⟨#[]⟩ : ByteArray))]], false, true⟩, some (10, 0))] [] ⟨⟨rfl, _, rfl, rfl, rfl, rfl, id, rowsCv_one (.cons (.free rfl) (.cons (.free rfl) (.cons (.free rfl) (.cons (.free rfl) (.cons (.free rfl) (.cons (.free rfl) .nil)))))), rowsZ_one rfl⟩, ⟨rfl, _, rfl, rfl, rfl, rfl, id, rowsCv_one (.cons (.free rfl) (.cons (.free rfl) (.cons (.free rfl) (.cons (.free rfl) (.cons (.free rfl) (.cons (.free rfl) .nil)))))), rowsZ_one rfl⟩, trivial⟩ trivial rfl rfl ?_
     exact ⟨(.free rfl), (.free rfl), (.free rfl), (.free rfl), (.ptr rfl), (.ptr rfl), (.free rfl), trivial⟩
   ·rintro ⟨j2_0, h⟩
    replace h : s_GetData_j2 p0 p1 p2 p3 j2_0 = some (r0, r1) := h
    unfold s_GetData_j2 at h
    show Tri _ _ _ (inv_s_GetData_2 p0 p1 p2 p3 j2_0)
    refine tri_cond rfl (fun c7 => ?_) (fun c7 => ?_)
    ·replace h := cond_t h c7
     refine tri_sr ?_
     refine s_loadR rfl rfl rfl rfl ty62 rfl rfl rfl ?_
     refine s_storeB rfl rfl rfl ty62 rfl rfl rfl rfl rfl ?_
     refine s_mv (.inr rfl) (v := .sc (.int .i64 1)) rfl rfl rfl rfl ?_
     refine rt_nil ?_
     refine tri_ret ?_
     have e0 := (some2 h).1; have e1 := (some2 h).2; subst e0; subst e1
     exact endY [] [] (rvC (resCell rfl rfl ty62) (rvC (resTmp rfl) rvN)) trivial trivial rfl rfl rfl rfl (CvL.tup (.cons (cvAgg rfl) (.cons (.free rfl) .nil)))
    ·replace h := cond_f h c7
     refine tri_skip ?_
     refine tri_sr ?_
     refine m1 ?_
     refine s_build (cells' := [.sc (.string (⟨#[]⟩ : ByteArray)), .sc (.int .i64 p3), .sc (.int .i64 0), .sc (.int .i64 0), .sc (.string (⟨#[]⟩ : ByteArray)), .sc (.string (⟨#[]⟩ : ByteArray))]) rfl stc62 rfl rfl rfl rfl rfl rfl rfl ?_
     refine s_alloc rfl rfl rfl zc62 rfl rfl rfl rfl rfl ?_
     refine s_storeB rfl rfl rfl ty62 rfl rfl rfl rfl rfl ?_
     refine rt_nil ?_
     refine tri_sr ?_
     refine m1 ?_
     refine m1 ?_
     refine grd_elim h fun g8 h => ?_
     refine s_addI rfl rfl rfl rfl g8 rfl rfl rfl ?_
     refine m2 ?_
     refine rt_nil ?_
     refine tri_seq ?_
     refine tri_sr ?_
     refine m1 ?_
     refine rt_nil ?_
     refine tri_block ?_
     refine tri_sr ?_
     refine s_of (st_eqI rfl rfl rfl) rfl rfl rfl rfl ?_
     refine m2 ?_
     refine rt_nil ?_
     refine tri_cond rfl (fun c9 => ?_) (fun c9 => ?_)
     ·replace h := cond_t h c9
      refine tri_sr ?_
      refine m1 ?_
      refine m1 ?_
      refine bnd2_elim h fun x10 x11 q12 h => ?_
      refine s_callN (kb := []) (ns := []) (v := .tup [.sc (.int .i64 x10), .sc (.bool x11)]) rfl rfl cl51 (ws_Get4 p0 p1 x10 x11 q12) rfl (.cons (.free rfl) (.cons (.free rfl) .nil)) trivial memNil .nil memNil rfl trivial memNil rfl rfl rfl rfl rfl rfl ?_
      refine m1 ?_
      refine s_extract rfl rfl rfl rfl rfl rfl ?_
      refine s_extract rfl rfl rfl rfl rfl rfl ?_
      refine m2 ?_
      refine m2 ?_
      refine rt_nil ?_
      refine tri_sr ?_
      refine m1 ?_
      refine s_fieldAddr rfl rfl fd62_3 rfl rfl rfl rfl ?_
      refine s_store (rows' := [[.sc (.string (⟨#[]⟩ : ByteArray)), .sc (.int .i64 p3), .sc (.int .i64 0), .sc (.int .i64 x10), .sc (.string (⟨#[]⟩ : ByteArray)), .sc (.string (⟨#[]⟩ : ByteArray))]]) rfl rfl rfl rfl ty3 rfl rfl rfl rfl rfl rfl ?_
      refine rt_nil ?_
      refine tri_cutI (ι := { p : Bool // s_GetData_j3 p3 x10 p = some (r0, r1) }) (fun p => inv_s_GetData_3 p3 x10 p.1) ?_ ?_
      ·skip
       refine tri_region ?_
       refine m1 ?_
       refine s_of (st_not rfl rfl) rfl rfl rfl rfl ?_
       refine m1 ?_
       refine s_split (t := 106) rfl (fun b13 => ?_) (fun b13 => ?_)
       ·replace h := cond_t h b13
        refine s_skip rfl rfl rfl ?_
        refine s_skip rfl rfl rfl ?_
        refine s_pickT rfl rfl (v := .sc (.bool true)) rfl rfl rfl rfl ?_
        refine rt_nil ?_
        refine Exists.intro ⟨true, h⟩ ?_
        refine entX [((8, 0), ⟨62, 6, [[.sc (.string (⟨#[]⟩ : ByteArray)), .sc (.int .i64 0), .sc (.int .i64 0), .sc (.int .i64 0), .sc (.string (⟨#[]⟩ : ByteArray)), .sc (.string (⟨#[]⟩ : ByteArray))]], false, true⟩, some (8, 0)), ((10, 0), ⟨62, 6, [[.sc (.string (⟨#[]⟩ : ByteArray)), .sc (.int .i64 0), .sc (.int .i64 0), .sc (.int .i64 0), .sc (.string (⟨#[]⟩ : ByteArray)), .sc (.string (⟨#[]⟩ : ByteArray))]], false, true⟩, some (10, 0)), ((11, 0), ⟨62, 6, [[.sc (.string (⟨#[]⟩ : ByteArray)), .sc (.int .i64 p3), .sc (.int .i64 0), .sc (.int .i64 x10), .sc (.string (⟨#[]⟩ : ByteArray)), .sc (.string (⟨#[]⟩ : ByteArray))]], false, true⟩, some (11, 0))] [] ⟨⟨rfl, _, rfl, rfl, rfl, rfl, id, rowsCv_one (.cons (.free rfl) (.cons (.free rfl) (.cons (.free rfl) (.cons (.free rfl) (.cons (.free rfl) (.cons (.free rfl) .nil)))))), rowsZ_one rfl⟩, ⟨rfl, _, rfl, rfl, rfl, rfl, id, rowsCv_one (.cons (.free rfl) (.cons (.free rfl) (.cons (.free rfl) (.cons (.free rfl) (.cons (.free rfl) (.cons (.free rfl) .nil)))))), rowsZ_one rfl⟩, ⟨rfl, _, rfl, rfl, rfl, rfl, id, rowsCv_one (.cons (.free rfl) (.cons (.free rfl) (.cons (.free rfl) (.cons (.free rfl) (.cons (.free rfl) (.cons (.free rfl) .nil)))))), rowsZ_one rfl⟩, trivial⟩ trivial rfl rfl ?_
        exact ⟨(.ptr rfl), (.ptr rfl), (.ptr rfl), (.free rfl), trivial⟩
       ·replace h := cond_f h b13
        refine m1 ?_
        refine s_of (st_neI rfl rfl rfl) rfl rfl rfl rfl ?_
        refine s_pickF rfl rfl (by conv => lhs; whnf) rfl rfl rfl ?_
        refine rt_nil ?_
        refine Exists.intro ⟨!decide (p2 = 4), h⟩ ?_
        refine entX [((8, 0), ⟨62, 6, [[.sc (.string (⟨#[]⟩ : ByteArray)), .sc (.int .i64 0), .sc (.int .i64 0), .sc (.int .i64 0), .sc (.string (⟨#[]⟩ : ByteArray)), .sc (.string (⟨#[]⟩ : ByteArray))]], false, true⟩, some (8, 0)), ((10, 0), ⟨62, 6, [[.sc (.string (⟨#[]⟩ : ByteArray)), .sc (.int .i64 0), .sc (.int .i64 0), .sc (.int .i64 0), .sc (.string (⟨#[]⟩ : ByteArray)), .sc (.string (⟨#[]⟩ : ByteArray))]], false, true⟩, some (10, 0)), ((11, 0), ⟨62, 6, [[.sc (.string (⟨#[]⟩ : ByteArray)), .sc (.int .i64 p3), .sc (.int .i64 0), .sc (.int .i64 x10), .sc (.string (⟨#[]⟩ : ByteArray)), .sc (.string (⟨#[]⟩ : ByteArray))]], false, true⟩, some (11, 0))] [] ⟨⟨rfl, _, rfl, rfl, rfl, rfl, id, rowsCv_one (.cons (.free rfl) (.cons (.free rfl) (.cons (.free rfl) (.cons (.free rfl) (.cons (.free rfl) (.cons (.free rfl) .nil)))))), rowsZ_one rfl⟩, ⟨rfl, _, rfl, rfl, rfl, rfl, id, rowsCv_one (.cons (.free rfl) (.cons (.free rfl) (.cons (.free rfl) (.cons (.free rfl) (.cons (.free rfl) (.cons (.free rfl) .nil)))))), rowsZ_one rfl⟩, ⟨rfl, _, rfl, rfl, rfl, rfl, id, rowsCv_one (.cons (.free rfl) (.cons (.free rfl) (.cons (.free rfl) (.cons (.free rfl) (.cons (.free rfl) (.cons (.free rfl) .nil)))))), rowsZ_one rfl⟩, trivial⟩ trivial rfl rfl ?_
        exact ⟨(.ptr rfl), (.ptr rfl), (.ptr rfl), (.free rfl), trivial⟩
      ·rintro ⟨j3_0, h⟩
       replace h : s_GetData_j3 p3 x10 j3_0 = some (r0, r1) := h
       unfold s_GetData_j3 at h
       show Tri _ _ _ (inv_s_GetData_3 p3 x10 j3_0)
       refine tri_cond rfl (fun c13 => ?_) (fun c13 => ?_)
       ·replace h := cond_t h c13
        refine tri_sr ?_
        refine s_loadR rfl rfl rfl rfl ty62 rfl rfl rfl ?_
        refine s_storeB rfl rfl rfl ty62 rfl rfl rfl rfl rfl ?_
        refine s_mv (.inr rfl) (v := .sc (.int .i64 2)) rfl rfl rfl rfl ?_
        refine rt_nil ?_
        refine tri_ret ?_
        have e0 := (some2 h).1; have e1 := (some2 h).2; subst e0; subst e1
        exact endY [] [] (rvC (resCell rfl rfl ty62) (rvC (resTmp rfl) rvN)) trivial trivial rfl rfl rfl rfl (CvL.tup (.cons (cvAgg rfl) (.cons (.free rfl) .nil)))
       ·replace h := cond_f h c13
        refine tri_skip ?_
        refine tri_sr ?_
        refine s_loadR rfl rfl rfl rfl ty62 rfl rfl rfl ?_
        refine s_storeB rfl rfl rfl ty62 rfl rfl rfl rfl rfl ?_
        refine s_mv (.inr rfl) (v := .sc (.int .i64 0)) rfl rfl rfl rfl ?_
        refine rt_nil ?_
        refine tri_ret ?_
        have e0 := (some2 h).1; have e1 := (some2 h).2; subst e0; subst e1
        exact endY [] [] (rvC (resCell rfl rfl ty62) (rvC (resTmp rfl) rvN)) trivial trivial rfl rfl rfl rfl (CvL.tup (.cons (cvAgg rfl) (.cons (.free rfl) .nil)))
     ·replace h := cond_f h c9
      refine tri_sr ?_
      refine s_of (st_eqI rfl rfl rfl) rfl rfl rfl rfl ?_
      refine m2 ?_
      refine rt_nil ?_
      refine tri_cond rfl (fun c14 => ?_) (fun c14 => ?_)
      ·replace h := cond_t h c14
       refine tri_seq ?_
       refine tri_cutI (ι := { p : Bool // s_GetData_j4 p0 p1 p2 p3 p = some (r0, r1) }) (fun p => inv_s_GetData_4 p0 p1 p2 p3 p.1) ?_ ?_
       ·skip
        refine tri_region ?_
        refine m1 ?_
        refine s_of (st_lss rfl rfl rfl) rfl rfl rfl rfl ?_
        refine m1 ?_
        refine s_split (t := 115) rfl (fun b15 => ?_) (fun b15 => ?_)
        ·replace h := cond_t h b15
         refine s_skip rfl rfl rfl ?_
         refine s_skip rfl rfl rfl ?_
         refine s_skip rfl rfl rfl ?_
         refine s_skip rfl rfl rfl ?_
         refine s_skip rfl rfl rfl ?_
         refine s_skip rfl rfl rfl ?_
         refine s_skip rfl rfl rfl ?_
         refine s_skip rfl rfl rfl ?_
         refine s_pickT rfl rfl (v := .sc (.bool true)) rfl rfl rfl rfl ?_
         refine rt_nil ?_
         refine Exists.intro ⟨true, h⟩ ?_
         refine entX [((8, 0), ⟨62, 6, [[.sc (.string (⟨#[]⟩ : ByteArray)), .sc (.int .i64 0), .sc (.int .i64 0), .sc (.int .i64 0), .sc (.string (⟨#[]⟩ : ByteArray)), .sc (.string (⟨#[]⟩ : ByteArray))]], false, true⟩, some (8, 0)), ((10, 0), ⟨62, 6, [[.sc (.string (⟨#[]⟩ : ByteArray)), .sc (.int .i64 0), .sc (.int .i64 0), .sc (.int .i64 0), .sc (.string (⟨#[]⟩ : ByteArray)), .sc (.string (⟨#[]⟩ : ByteArray))]], false, true⟩, some (10, 0)), ((11, 0), ⟨62, 6, [[.sc (.string (⟨#[]⟩ : ByteArray)), .sc (.int .i64 p3), .sc (.int .i64 0), .sc (.int .i64 0), .sc (.string (⟨#[]⟩ : ByteArray)), .sc (.string (⟨#[]⟩ : ByteArray))]], false, true⟩, some (11, 0))] [] ⟨⟨rfl, _, rfl, rfl, rfl, rfl, id, rowsCv_one (.cons (.free rfl) (.cons (.free rfl) (.cons (.free rfl) (.cons (.free rfl) (.cons (.free rfl) (.cons (.free rfl) .nil)))))), rowsZ_one rfl⟩, ⟨rfl, _, rfl, rfl, rfl, rfl, id, rowsCv_one (.cons (.free rfl) (.cons (.free rfl) (.cons (.free rfl) (.cons (.free rfl) (.cons (.free rfl) (.cons (.free rfl) .nil)))))), rowsZ_one rfl⟩, ⟨rfl, _, rfl, rfl, rfl, rfl, id, rowsCv_one (.cons (.free rfl) (.cons (.free rfl) (.cons (.free rfl) (.cons (.free rfl) (.cons (.free rfl) (.cons (.free rfl) .nil)))))), rowsZ_one rfl⟩, trivial⟩ trivial rfl rfl ?_
         exact ⟨(.free rfl), (.free rfl), (.ptr rfl), (.ptr rfl), (.ptr rfl), (.free rfl), (.free rfl), trivial⟩
        ·replace h := cond_f h b15
         refine m1 ?_
         refine m1 ?_
         refine bnd1_elim h fun x16 q17 h => ?_
         have q17a := (idx_some q17).1; have q17b := (idx_some q17).2
         refine s_indexFZ rfl rfl rfl sl22 q17a (get_ltM q17b) rfl rfl rfl ?_
         refine s_loadF rfl rfl (rowG q17b) ty5 rfl (.inr rfl) (by conv => lhs; whnf) rfl rfl rfl ?_
         refine s_of (st_conv ik5 ik3 rfl rfl) rfl rfl rfl rfl ?_
         refine m1 ?_
         refine grd_elim h fun g18 h => ?_
         refine s_subI rfl rfl rfl rfl g18 rfl rfl rfl ?_
         refine s_of (st_neI rfl rfl rfl) rfl rfl rfl rfl ?_
         refine s_pickF rfl rfl (by conv => lhs; whnf) rfl rfl rfl ?_
         refine rt_nil ?_
         refine Exists.intro ⟨!decide (IntKind.i64.wrap x16 = p2 - 1), h⟩ ?_
         refine entX [((8, 0), ⟨62, 6, [[.sc (.string (⟨#[]⟩ : ByteArray)), .sc (.int .i64 0), .sc (.int .i64 0), .sc (.int .i64 0), .sc (.string (⟨#[]⟩ : ByteArray)), .sc (.string (⟨#[]⟩ : ByteArray))]], false, true⟩, some (8, 0)), ((10, 0), ⟨62, 6, [[.sc (.string (⟨#[]⟩ : ByteArray)), .sc (.int .i64 0), .sc (.int .i64 0), .sc (.int .i64 0), .sc (.string (⟨#[]⟩ : ByteArray)), .sc (.string (⟨#[]⟩ : ByteArray))]], false, true⟩, some (10, 0)), ((11, 0), ⟨62, 6, [[.sc (.string (⟨#[]⟩ : ByteArray)), .sc (.int .i64 p3), .sc (.int .i64 0), .sc (.int .i64 0), .sc (.string (⟨#[]⟩ : ByteArray)), .sc (.string (⟨#[]⟩ : ByteArray))]], false, true⟩, some (11, 0))] [] ⟨⟨rfl, _, rfl, rfl, rfl, rfl, id, rowsCv_one (.cons (.free rfl) (.cons (.free rfl) (.cons (.free rfl) (.cons (.free rfl) (.cons (.free rfl) (.cons (.free rfl) .nil)))))), rowsZ_one rfl⟩, ⟨rfl, _, rfl, rfl, rfl, rfl, id, rowsCv_one (.cons (.free rfl) (.cons (.free rfl) (.cons (.free rfl) (.cons (.free rfl) (.cons (.free rfl) (.cons (.free rfl) .nil)))))), rowsZ_one rfl⟩, ⟨rfl, _, rfl, rfl, rfl, rfl, id, rowsCv_one (.cons (.free rfl) (.cons (.free rfl) (.cons (.free rfl) (.cons (.free rfl) (.cons (.free rfl) (.cons (.free rfl) .nil)))))), rowsZ_one rfl⟩, trivial⟩ trivial rfl rfl ?_
         exact ⟨(.free rfl), (.free rfl), (.ptr rfl), (.ptr rfl), (.ptr rfl), (.free rfl), (.free rfl), trivial⟩
       ·rintro ⟨j4_0, h⟩
        replace h : s_GetData_j4 p0 p1 p2 p3 j4_0 = some (r0, r1) := h
        unfold s_GetData_j4 at h
        show Tri _ _ _ (inv_s_GetData_4 p0 p1 p2 p3 j4_0)
        refine tri_cond rfl (fun c15 => ?_) (fun c15 => ?_)
        ·replace h := cond_t h c15
         refine tri_sr ?_
         refine s_loadR rfl rfl rfl rfl ty62 rfl rfl rfl ?_
         refine s_storeB rfl rfl rfl ty62 rfl rfl rfl rfl rfl ?_
         refine s_mv (.inr rfl) (v := .sc (.int .i64 2)) rfl rfl rfl rfl ?_
         refine rt_nil ?_
         refine tri_ret ?_
         have e0 := (some2 h).1; have e1 := (some2 h).2; subst e0; subst e1
         exact endY [] [] (rvC (resCell rfl rfl ty62) (rvC (resTmp rfl) rvN)) trivial trivial rfl rfl rfl rfl (CvL.tup (.cons (cvAgg rfl) (.cons (.free rfl) .nil)))
        ·replace h := cond_f h c15
         refine tri_skip ?_
         refine tri_sr ?_
         refine m1 ?_
         refine m1 ?_
         refine grd_elim h fun g16 h => ?_
         refine s_addI rfl rfl rfl rfl g16 rfl rfl rfl ?_
         refine m1 ?_
         refine grd_elim h fun g17 h => ?_
         refine s_sliceFZ (a := p1 + 1) (b := p1 + p2) rfl rfl sl22 ⟨_, rfl⟩ ⟨_, rfl⟩ g17 rfl rfl rfl ?_
         refine s_toString rfl src_lst byt22 iss9 rfl rfl rfl rfl ?_
         refine s_fieldAddr rfl rfl fd62_5 rfl rfl rfl rfl ?_
         refine s_store (rows' := [[.sc (.string (⟨#[]⟩ : ByteArray)), .sc (.int .i64 p3), .sc (.int .i64 0), .sc (.int .i64 0), .sc (.string (⟨#[]⟩ : ByteArray)), .sc (.string (strOfNums ((p0.drop (p1 + 1).toNat).take ((p1 + p2).toNat - (p1 + 1).toNat))))]]) rfl rfl rfl rfl ty9 rfl rfl rfl rfl rfl rfl ?_
         refine rt_nil ?_
         refine tri_sr ?_
         refine s_fieldAddr rfl rfl fd62_5 rfl rfl rfl rfl ?_
         refine s_load rfl rfl rfl rfl ty9 rfl (.inr rfl) (by conv => lhs; whnf) rfl rfl rfl ?_
         refine bnd1_elim h fun x18 q19 h => ?_
         refine s_callN (kb := []) (ns := []) (v := .sc (.bool x18)) rfl rfl cl63 (ws_l5Text (strOfNums ((p0.drop (p1 + 1).toNat).take ((p1 + p2).toNat - (p1 + 1).toNat))) x18 q19) rfl (.cons (.free rfl) .nil) trivial memNil .nil memNil rfl trivial memNil rfl rfl rfl rfl rfl rfl ?_
         refine s_of (st_not rfl rfl) rfl rfl rfl rfl ?_
         refine rt_nil ?_
         refine tri_cond rfl (fun c20 => ?_) (fun c20 => ?_)
         ·replace h := cond_t h c20
          refine tri_sr ?_
          refine s_loadR rfl rfl rfl rfl ty62 rfl rfl rfl ?_
          refine s_storeB rfl rfl rfl ty62 rfl rfl rfl rfl rfl ?_
          refine s_mv (.inr rfl) (v := .sc (.int .i64 2)) rfl rfl rfl rfl ?_
          refine rt_nil ?_
          refine tri_ret ?_
          have e0 := (some2 h).1; have e1 := (some2 h).2; subst e0; subst e1
          exact endY [] [] (rvC (resCell rfl rfl ty62) (rvC (resTmp rfl) rvN)) trivial trivial rfl rfl rfl rfl (CvL.tup (.cons (cvAgg rfl) (.cons (.free rfl) .nil)))
         ·replace h := cond_f h c20
          refine tri_skip ?_
          refine tri_sr ?_
          refine s_loadR rfl rfl rfl rfl ty62 rfl rfl rfl ?_
          refine s_storeB rfl rfl rfl ty62 rfl rfl rfl rfl rfl ?_
          refine s_mv (.inr rfl) (v := .sc (.int .i64 0)) rfl rfl rfl rfl ?_
          refine rt_nil ?_
          refine tri_ret ?_
          have e0 := (some2 h).1; have e1 := (some2 h).2; subst e0; subst e1
          exact endY [] [] (rvC (resCell rfl rfl ty62) (rvC (resTmp rfl) rvN)) trivial trivial rfl rfl rfl rfl (CvL.tup (.cons (cvAgg rfl) (.cons (.free rfl) .nil)))
      ·replace h := cond_f h c14
       refine tri_sr ?_
       refine m1 ?_
       refine m1 ?_
       refine bnd3_elim h fun x21 x22 x23 q24 h => ?_
       refine s_callN (kb := []) (ns := []) (v := .tup [.sc (.string x21), .sc (.int .i64 x22), .sc (.int .i64 x23)]) rfl rfl cl16 (ws_GetName p0 p1 x21 x22 x23 q24) rfl (.cons (.free rfl) (.cons (.free rfl) .nil)) trivial memNil .nil memNil rfl trivial memNil rfl rfl rfl rfl rfl rfl ?_
       refine m1 ?_
       refine s_extract rfl rfl rfl rfl rfl rfl ?_
       refine s_extract rfl rfl rfl rfl rfl rfl ?_
       refine s_extract rfl rfl rfl rfl rfl rfl ?_
       refine m2 ?_
       refine m2 ?_
       refine m2 ?_
       refine rt_nil ?_
       refine tri_seq ?_
       refine tri_sr ?_
       refine m1 ?_
       refine s_of (st_neI rfl rfl rfl) rfl rfl rfl rfl ?_
       refine rt_nil ?_
       refine tri_cond rfl (fun c25 => ?_) (fun c25 => ?_)
       ·replace h := cond_t h c25
        refine tri_sr ?_
        refine s_loadR rfl rfl rfl rfl ty62 rfl rfl rfl ?_
        refine m1 ?_
        refine s_storeB rfl rfl rfl ty62 rfl rfl rfl rfl rfl ?_
        refine m2 ?_
        refine rt_nil ?_
        refine tri_ret ?_
        have e0 := (some2 h).1; have e1 := (some2 h).2; subst e0; subst e1
        exact endY [] [] (rvC (resCell rfl rfl ty62) (rvC (resTmp rfl) rvN)) trivial trivial rfl rfl rfl rfl (CvL.tup (.cons (cvAgg rfl) (.cons (.free rfl) .nil)))
       ·replace h := cond_f h c25
        refine tri_skip ?_
        refine tri_sr ?_
        refine m1 ?_
        refine s_fieldAddr rfl rfl fd62_4 rfl rfl rfl rfl ?_
        refine s_store (rows' := [[.sc (.string (⟨#[]⟩ : ByteArray)), .sc (.int .i64 p3), .sc (.int .i64 0), .sc (.int .i64 0), .sc (.string x21), .sc (.string (⟨#[]⟩ : ByteArray))]]) rfl rfl rfl rfl ty9 rfl rfl rfl rfl rfl rfl ?_
        refine rt_nil ?_
        refine tri_cutI (ι := { p : Int × Int // s_GetData_j5 p1 p2 p3 x21 p.1 p.2 = some (r0, r1) }) (fun p => inv_s_GetData_5 p1 p2 p3 x21 p.1.1 p.1.2) ?_ ?_
        ·skip
         refine tri_sr ?_
         refine m1 ?_
         refine s_of (st_eqI rfl rfl rfl) rfl rfl rfl rfl ?_
         refine rt_nil ?_
         refine tri_cond rfl (fun c26 => ?_) (fun c26 => ?_)
         ·replace h := cond_t h c26
          refine tri_sr ?_
          refine m1 ?_
          refine m1 ?_
          refine bnd2_elim h fun x27 x28 q29 h => ?_
          refine s_callN (kb := []) (ns := []) (v := .tup [.sc (.int .i64 x27), .sc (.bool x28)]) rfl rfl cl51 (ws_Get4 p0 x22 x27 x28 q29) rfl (.cons (.free rfl) (.cons (.free rfl) .nil)) trivial memNil .nil memNil rfl trivial memNil rfl rfl rfl rfl rfl rfl ?_
          refine m1 ?_
          refine s_extract rfl rfl rfl rfl rfl rfl ?_
          refine s_extract rfl rfl rfl rfl rfl rfl ?_
          refine m2 ?_
          refine m2 ?_
          refine rt_nil ?_
          refine tri_seq ?_
          refine tri_sr ?_
          refine m1 ?_
          refine s_of (st_not rfl rfl) rfl rfl rfl rfl ?_
          refine rt_nil ?_
          refine tri_cond rfl (fun c30 => ?_) (fun c30 => ?_)
          ·replace h := cond_t h c30
           refine tri_sr ?_
           refine s_loadR rfl rfl rfl rfl ty62 rfl rfl rfl ?_
           refine s_storeB rfl rfl rfl ty62 rfl rfl rfl rfl rfl ?_
           refine s_mv (.inr rfl) (v := .sc (.int .i64 2)) rfl rfl rfl rfl ?_
           refine rt_nil ?_
           refine tri_ret ?_
           have e0 := (some2 h).1; have e1 := (some2 h).2; subst e0; subst e1
           exact endY [] [] (rvC (resCell rfl rfl ty62) (rvC (resTmp rfl) rvN)) trivial trivial rfl rfl rfl rfl (CvL.tup (.cons (cvAgg rfl) (.cons (.free rfl) .nil)))
          ·replace h := cond_f h c30
           refine tri_skip ?_
           refine tri_sr ?_
           refine m1 ?_
           refine s_fieldAddr rfl rfl fd62_3 rfl rfl rfl rfl ?_
           refine s_store (rows' := [[.sc (.string (⟨#[]⟩ : ByteArray)), .sc (.int .i64 p3), .sc (.int .i64 0), .sc (.int .i64 x27), .sc (.string x21), .sc (.string (⟨#[]⟩ : ByteArray))]]) rfl rfl rfl rfl ty3 rfl rfl rfl rfl rfl rfl ?_
           refine rt_nil ?_
           refine tri_region ?_
           refine m1 ?_
           refine grd_elim h fun g31 h => ?_
           refine s_addI rfl rfl rfl rfl g31 rfl rfl rfl ?_
           refine m2 ?_
           refine rt_nil ?_
           refine Exists.intro ⟨(x27, x22 + 4), h⟩ ?_
           refine entX [((8, 0), ⟨62, 6, [[.sc (.string (⟨#[]⟩ : ByteArray)), .sc (.int .i64 0), .sc (.int .i64 0), .sc (.int .i64 0), .sc (.string (⟨#[]⟩ : ByteArray)), .sc (.string (⟨#[]⟩ : ByteArray))]], false, true⟩, some (8, 0)), ((10, 0), ⟨62, 6, [[.sc (.string (⟨#[]⟩ : ByteArray)), .sc (.int .i64 0), .sc (.int .i64 0), .sc (.int .i64 0), .sc (.string (⟨#[]⟩ : ByteArray)), .sc (.string (⟨#[]⟩ : ByteArray))]], false, true⟩, some (10, 0)), ((11, 0), ⟨62, 6, [[.sc (.string (⟨#[]⟩ : ByteArray)), .sc (.int .i64 p3), .sc (.int .i64 0), .sc (.int .i64 x27), .sc (.string x21), .sc (.string (⟨#[]⟩ : ByteArray))]], false, true⟩, some (11, 0))] [] ⟨⟨rfl, _, rfl, rfl, rfl, rfl, id, rowsCv_one (.cons (.free rfl) (.cons (.free rfl) (.cons (.free rfl) (.cons (.free rfl) (.cons (.free rfl) (.cons (.free rfl) .nil)))))), rowsZ_one rfl⟩, ⟨rfl, _, rfl, rfl, rfl, rfl, id, rowsCv_one (.cons (.free rfl) (.cons (.free rfl) (.cons (.free rfl) (.cons (.free rfl) (.cons (.free rfl) (.cons (.free rfl) .nil)))))), rowsZ_one rfl⟩, ⟨rfl, _, rfl, rfl, rfl, rfl, id, rowsCv_one (.cons (.free rfl) (.cons (.free rfl) (.cons (.free rfl) (.cons (.free rfl) (.cons (.free rfl) (.cons (.free rfl) .nil)))))), rowsZ_one rfl⟩, trivial⟩ trivial rfl rfl ?_
           exact ⟨(.ptr rfl), (.ptr rfl), (.ptr rfl), (.free rfl), (.free rfl), trivial⟩
         ·replace h := cond_f h c26
          refine tri_skip ?_
          refine Exists.intro ⟨(0, x22), h⟩ ?_
          refine entX [((8, 0), ⟨62, 6, [[.sc (.string (⟨#[]⟩ : ByteArray)), .sc (.int .i64 0), .sc (.int .i64 0), .sc (.int .i64 0), .sc (.string (⟨#[]⟩ : ByteArray)), .sc (.string (⟨#[]⟩ : ByteArray))]], false, true⟩, some (8, 0)), ((10, 0), ⟨62, 6, [[.sc (.string (⟨#[]⟩ : ByteArray)), .sc (.int .i64 0), .sc (.int .i64 0), .sc (.int .i64 0), .sc (.string (⟨#[]⟩ : ByteArray)), .sc (.string (⟨#[]⟩ : ByteArray))]], false, true⟩, some (10, 0)), ((11, 0), ⟨62, 6, [[.sc (.string (⟨#[]⟩ : ByteArray)), .sc (.int .i64 p3), .sc (.int .i64 0), .sc (.int .i64 0), .sc (.string x21), .sc (.string (⟨#[]⟩ : ByteArray))]], false, true⟩, some (11, 0))] [] ⟨⟨rfl, _, rfl, rfl, rfl, rfl, id, rowsCv_one (.cons (.free rfl) (.cons (.free rfl) (.cons (.free rfl) (.cons (.free rfl) (.cons (.free rfl) (.cons (.free rfl) .nil)))))), rowsZ_one rfl⟩, ⟨rfl, _, rfl, rfl, rfl, rfl, id, rowsCv_one (.cons (.free rfl) (.cons (.free rfl) (.cons (.free rfl) (.cons (.free rfl) (.cons (.free rfl) (.cons (.free rfl) .nil)))))), rowsZ_one rfl⟩, ⟨rfl, _, rfl, rfl, rfl, rfl, id, rowsCv_one (.cons (.free rfl) (.cons (.free rfl) (.cons (.free rfl) (.cons (.free rfl) (.cons (.free rfl) (.cons (.free rfl) .nil)))))), rowsZ_one rfl⟩, trivial⟩ trivial rfl rfl ?_
          exact ⟨(.ptr rfl), (.ptr rfl), (.ptr rfl), (.free rfl), (.free rfl), trivial⟩
        ·rintro ⟨⟨j5_0, j5_1⟩, h⟩
         replace h : s_GetData_j5 p1 p2 p3 x21 j5_0 j5_1 = some (r0, r1) := h
         unfold s_GetData_j5 at h
         show Tri _ _ _ (inv_s_GetData_5 p1 p2 p3 x21 j5_0 j5_1)
         refine tri_sr ?_
         refine m1 ?_
         refine m1 ?_
         refine s_of (st_neI rfl rfl rfl) rfl rfl rfl rfl ?_
         refine rt_nil ?_
         refine tri_cond rfl (fun c26 => ?_) (fun c26 => ?_)
         ·replace h := cond_t h c26
          refine tri_sr ?_
          refine s_loadR rfl rfl rfl rfl ty62 rfl rfl rfl ?_
          refine s_storeB rfl rfl rfl ty62 rfl rfl rfl rfl rfl ?_
          refine s_mv (.inr rfl) (v := .sc (.int .i64 2)) rfl rfl rfl rfl ?_
          refine rt_nil ?_
          refine tri_ret ?_
          have e0 := (some2 h).1; have e1 := (some2 h).2; subst e0; subst e1
          exact endY [] [] (rvC (resCell rfl rfl ty62) (rvC (resTmp rfl) rvN)) trivial trivial rfl rfl rfl rfl (CvL.tup (.cons (cvAgg rfl) (.cons (.free rfl) .nil)))
         ·replace h := cond_f h c26
          refine tri_skip ?_
          refine tri_sr ?_
          refine s_loadR rfl rfl rfl rfl ty62 rfl rfl rfl ?_
          refine s_storeB rfl rfl rfl ty62 rfl rfl rfl rfl rfl ?_
          refine s_mv (.inr rfl) (v := .sc (.int .i64 0)) rfl rfl rfl rfl ?_
          refine rt_nil ?_
          refine tri_ret ?_
          have e0 := (some2 h).1; have e1 := (some2 h).2; subst e0; subst e1
          exact endY [] [] (rvC (resCell rfl rfl ty62) (rvC (resTmp rfl) rvN)) trivial trivial rfl rfl rfl rfl (CvL.tup (.cons (cvAgg rfl) (.cons (.free rfl) .nil)))

/- spec.RecordOk -/
def inv_s_RecordOk_1 (p0 : Rec) (j1_0 : Bool) : St := mkT 79 [(1, .ptr (1, 0) 0 0), (14, .sc (.int .i64 p0.ty)), (30, .sc (.bool j1_0))] [((1, 0), some ⟨62, 6, [[.sc (.string p0.name), .sc (.int .i64 p0.ty), .sc (.int .i64 p0.ttl), .sc (.int .i64 p0.n), .sc (.string p0.host), .sc (.string p0.text)]], false, true⟩)]
def inv_s_RecordOk_0 (p0 : Rec) (j0_0 : Bool) : St := mkT 79 [(1, .ptr (1, 0) 0 0), (12, .sc (.bool j0_0))] [((1, 0), some ⟨62, 6, [[.sc (.string p0.name), .sc (.int .i64 p0.ty), .sc (.int .i64 p0.ttl), .sc (.int .i64 p0.n), .sc (.string p0.host), .sc (.string p0.text)]], false, true⟩)]
set_option maxRecDepth 4000 in
set_option maxHeartbeats 800000 in
theorem ws_RecordOk (p0 : Rec) (r0 : Bool) (h : s_RecordOk p0 = some r0) : Runs Tryd.prog 53 [.agg (recV p0)] [] (.sc (.bool r0)) [] := by
 unfold s_RecordOk at h
 refine runsR [.tmp 2] Tryd.func53 rfl rfl rfl rfl ?_
 rw [Tryd.ntmps53]
 refine tri_sr ?_
 refine s_box rfl rfl rfl rfl rfl rfl rfl ?_
 refine s_mv (.inr rfl) (v := .sc (.bool false)) rfl rfl rfl rfl ?_
 refine rt_nil ?_
 refine tri_seq ?_
 refine tri_cutI (ι := { p : Bool // s_RecordOk_j0 p0 p = some r0 }) (fun p => inv_s_RecordOk_0 p0 p.1) ?_ ?_
 ·skip
  refine tri_region ?_
  refine s_fieldAddr rfl rfl fd62_0 rfl rfl rfl rfl ?_
  refine s_load rfl rfl rfl rfl ty9 rfl (.inr rfl) (by conv => lhs; whnf) rfl rfl rfl ?_
  refine bnd1_elim h fun x1 q2 h => ?_
  refine s_callN (kb := []) (ns := []) (v := .sc (.bool x1)) rfl rfl cl30 (ws_NameOk p0.name x1 q2) rfl (.cons (.free rfl) .nil) trivial memNil .nil memNil rfl trivial memNil rfl rfl rfl rfl rfl rfl ?_
  refine s_of (st_not rfl rfl) rfl rfl rfl rfl ?_
  refine m1 ?_
  refine s_split (t := 7) rfl (fun b3 => ?_) (fun b3 => ?_)
  ·replace h := cond_t h b3
   refine s_skip rfl rfl rfl ?_
   refine s_skip rfl rfl rfl ?_
   refine s_skip rfl rfl rfl ?_
   refine s_skip rfl rfl rfl ?_
   refine s_pickT rfl rfl (v := .sc (.bool true)) rfl rfl rfl rfl ?_
   refine rt_nil ?_
   refine Exists.intro ⟨true, h⟩ ?_
   refine entX [((1, 0), ⟨62, 6, [[.sc (.string p0.name), .sc (.int .i64 p0.ty), .sc (.int .i64 p0.ttl), .sc (.int .i64 p0.n), .sc (.string p0.host), .sc (.string p0.text)]], false, true⟩, some (1, 0))] [] ⟨⟨rfl, _, rfl, rfl, rfl, rfl, id, rowsCv_one (.cons (.free rfl) (.cons (.free rfl) (.cons (.free rfl) (.cons (.free rfl) (.cons (.free rfl) (.cons (.free rfl) .nil)))))), rowsZ_one rfl⟩, trivial⟩ trivial rfl rfl ?_
   exact ⟨(.ptr rfl), (.free rfl), trivial⟩
  ·replace h := cond_f h b3
   refine s_fieldAddr rfl rfl fd62_2 rfl rfl rfl rfl ?_
   refine s_load rfl rfl rfl rfl ty3 rfl (.inr rfl) (by conv => lhs; whnf) rfl rfl rfl ?_
   refine bnd1_elim h fun x4 q5 h => ?_
   refine s_callN (kb := []) (ns := []) (v := .sc (.bool x4)) rfl rfl cl36 (ws_l1In p0.ttl 0 100000 x4 q5) rfl (.cons (.free rfl) (.cons (.free rfl) (.cons (.free rfl) .nil))) trivial memNil .nil memNil rfl trivial memNil rfl rfl rfl rfl rfl rfl ?_
   refine s_of (st_not rfl rfl) rfl rfl rfl rfl ?_
   refine s_pickF rfl rfl (by conv => lhs; whnf) rfl rfl rfl ?_
   refine rt_nil ?_
   refine Exists.intro ⟨!x4, h⟩ ?_
   refine entX [((1, 0), ⟨62, 6, [[.sc (.string p0.name), .sc (.int .i64 p0.ty), .sc (.int .i64 p0.ttl), .sc (.int .i64 p0.n), .sc (.string p0.host), .sc (.string p0.text)]], false, true⟩, some (1, 0))] [] ⟨⟨rfl, _, rfl, rfl, rfl, rfl, id, rowsCv_one (.cons (.free rfl) (.cons (.free rfl) (.cons (.free rfl) (.cons (.free rfl) (.cons (.free rfl) (.cons (.free rfl) .nil)))))), rowsZ_one rfl⟩, trivial⟩ trivial rfl rfl ?_
   exact ⟨(.ptr rfl), (.free rfl), trivial⟩
 ·rintro ⟨j0_0, h⟩
  replace h : s_RecordOk_j0 p0 j0_0 = some r0 := h
  unfold s_RecordOk_j0 at h
  show Tri _ _ _ (inv_s_RecordOk_0 p0 j0_0)
  refine tri_cond rfl (fun c1 => ?_) (fun c1 => ?_)
  ·replace h := cond_t h c1
   refine tri_sr ?_
   refine s_mv (.inr rfl) (v := .sc (.bool false)) rfl rfl rfl rfl ?_
   refine rt_nil ?_
   refine tri_ret ?_
   have e0 := (some1 h); subst e0
   exact endY [] [] (rvC (resTmp rfl) rvN) trivial trivial rfl rfl rfl rfl (.free rfl)
  ·replace h := cond_f h c1
   refine tri_skip ?_
   refine tri_seq ?_
   refine tri_sr ?_
   refine s_fieldAddr rfl rfl fd62_1 rfl rfl rfl rfl ?_
   refine s_load rfl rfl rfl rfl ty3 rfl (.inr rfl) (by conv => lhs; whnf) rfl rfl rfl ?_
   refine rt_nil ?_
   refine tri_block ?_
   refine tri_sr ?_
   refine s_of (st_eqI rfl rfl rfl) rfl rfl rfl rfl ?_
   refine m2 ?_
   refine rt_nil ?_
   refine tri_cond rfl (fun c2 => ?_) (fun c2 => ?_)
   ·replace h := cond_t h c2
    refine tri_sr ?_
    refine s_fieldAddr rfl rfl fd62_3 rfl rfl rfl rfl ?_
    refine s_load rfl rfl rfl rfl ty3 rfl (.inr rfl) (by conv => lhs; whnf) rfl rfl rfl ?_
    refine bnd1_elim h fun x3 q4 h => ?_
    refine s_callN (kb := []) (ns := []) (v := .sc (.bool x3)) rfl rfl cl36 (ws_l1In p0.n 0 2147483647 x3 q4) rfl (.cons (.free rfl) (.cons (.free rfl) (.cons (.free rfl) .nil))) trivial memNil .nil memNil rfl trivial memNil rfl rfl rfl rfl rfl rfl ?_
    refine m1 ?_
    refine s_split (t := 20) rfl (fun b5 => ?_) (fun b5 => ?_)
    ·replace h := cond_t h b5
     refine s_fieldAddr rfl rfl fd62_4 rfl rfl rfl rfl ?_
     refine s_load rfl rfl rfl rfl ty9 rfl (.inr rfl) (by conv => lhs; whnf) rfl rfl rfl ?_
     refine s_of (st_eqS rfl rfl rfl) rfl rfl rfl rfl ?_
     refine s_pickT rfl rfl (by conv => lhs; whnf) rfl rfl rfl ?_
     refine m1 ?_
     refine s_split (t := 25) rfl (fun b6 => ?_) (fun b6 => ?_)
     ·replace h := cond_t h b6
      refine s_fieldAddr rfl rfl fd62_5 rfl rfl rfl rfl ?_
      refine s_load rfl rfl rfl rfl ty9 rfl (.inr rfl) (by conv => lhs; whnf) rfl rfl rfl ?_
      refine s_of (st_eqS rfl rfl rfl) rfl rfl rfl rfl ?_
      refine s_pickT rfl rfl (by conv => lhs; whnf) rfl rfl rfl ?_
      refine m2 ?_
      refine rt_nil ?_
      refine tri_ret ?_
      have e0 := (some1 h); subst e0
      exact endY [] [] (rvC (resTmp rfl) rvN) trivial trivial rfl rfl rfl rfl (.free rfl)
     ·replace h := cond_f h b6
      refine s_skip rfl rfl rfl ?_
      refine s_skip rfl rfl rfl ?_
      refine s_skip rfl rfl rfl ?_
      refine s_pickF rfl rfl (v := .sc (.bool false)) rfl rfl rfl rfl ?_
      refine m2 ?_
      refine rt_nil ?_
      refine tri_ret ?_
      have e0 := (some1 h); subst e0
      exact endY [] [] (rvC (resTmp rfl) rvN) trivial trivial rfl rfl rfl rfl (.free rfl)
    ·replace h := cond_f h b5
     refine s_skip rfl rfl rfl ?_
     refine s_skip rfl rfl rfl ?_
     refine s_skip rfl rfl rfl ?_
     refine s_pickF rfl rfl (v := .sc (.bool false)) rfl rfl rfl rfl ?_
     refine m1 ?_
     refine s_skip rfl rfl rfl ?_
     refine s_skip rfl rfl rfl ?_
     refine s_skip rfl rfl rfl ?_
     refine s_pickF rfl rfl (v := .sc (.bool false)) rfl rfl rfl rfl ?_
     refine m2 ?_
     refine rt_nil ?_
     refine tri_ret ?_
     have e0 := (some1 h); subst e0
     exact endY [] [] (rvC (resTmp rfl) rvN) trivial trivial rfl rfl rfl rfl (.free rfl)
   ·replace h := cond_f h c2
    refine tri_cutI (ι := { p : Bool // s_RecordOk_j1 p0 p = some r0 }) (fun p => inv_s_RecordOk_1 p0 p.1) ?_ ?_
    ·skip
     refine tri_sr ?_
     refine s_of (st_eqI rfl rfl rfl) rfl rfl rfl rfl ?_
     refine m2 ?_
     refine rt_nil ?_
     refine tri_cond rfl (fun c7 => ?_) (fun c7 => ?_)
     ·replace h := cond_t h c7
      refine tri_skip ?_
      refine Exists.intro ⟨decide (p0.ty = 2), h⟩ ?_
      refine entX [((1, 0), ⟨62, 6, [[.sc (.string p0.name), .sc (.int .i64 p0.ty), .sc (.int .i64 p0.ttl), .sc (.int .i64 p0.n), .sc (.string p0.host), .sc (.string p0.text)]], false, true⟩, some (1, 0))] [] ⟨⟨rfl, _, rfl, rfl, rfl, rfl, id, rowsCv_one (.cons (.free rfl) (.cons (.free rfl) (.cons (.free rfl) (.cons (.free rfl) (.cons (.free rfl) (.cons (.free rfl) .nil)))))), rowsZ_one rfl⟩, trivial⟩ trivial rfl rfl ?_
      exact ⟨(.ptr rfl), (.free rfl), (.free rfl), trivial⟩
     ·replace h := cond_f h c7
      refine tri_region ?_
      refine s_of (st_eqI rfl rfl rfl) rfl rfl rfl rfl ?_
      refine m2 ?_
      refine rt_nil ?_
      refine Exists.intro ⟨decide (p0.ty = 5), h⟩ ?_
      refine entX [((1, 0), ⟨62, 6, [[.sc (.string p0.name), .sc (.int .i64 p0.ty), .sc (.int .i64 p0.ttl), .sc (.int .i64 p0.n), .sc (.string p0.host), .sc (.string p0.text)]], false, true⟩, some (1, 0))] [] ⟨⟨rfl, _, rfl, rfl, rfl, rfl, id, rowsCv_one (.cons (.free rfl) (.cons (.free rfl) (.cons (.free rfl) (.cons (.free rfl) (.cons (.free rfl) (.cons (.free rfl) .nil)))))), rowsZ_one rfl⟩, trivial⟩ trivial rfl rfl ?_
      exact ⟨(.ptr rfl), (.free rfl), (.free rfl), trivial⟩
    ·rintro ⟨j1_0, h⟩
     replace h : s_RecordOk_j1 p0 j1_0 = some r0 := h
     unfold s_RecordOk_j1 at h
     show Tri _ _ _ (inv_s_RecordOk_1 p0 j1_0)
     refine tri_cond rfl (fun c7 => ?_) (fun c7 => ?_)
     ·replace h := cond_t h c7
      refine tri_sr ?_
      refine s_fieldAddr rfl rfl fd62_3 rfl rfl rfl rfl ?_
      refine s_load rfl rfl rfl rfl ty3 rfl (.inr rfl) (by conv => lhs; whnf) rfl rfl rfl ?_
      refine s_of (st_eqI rfl rfl rfl) rfl rfl rfl rfl ?_
      refine m1 ?_
      refine s_split (t := 36) rfl (fun b8 => ?_) (fun b8 => ?_)
      ·replace h := cond_t h b8
       refine s_fieldAddr rfl rfl fd62_4 rfl rfl rfl rfl ?_
       refine s_load rfl rfl rfl rfl ty9 rfl (.inr rfl) (by conv => lhs; whnf) rfl rfl rfl ?_
       refine bnd1_elim h fun x9 q10 h => ?_
       refine s_callN (kb := []) (ns := []) (v := .sc (.bool x9)) rfl rfl cl30 (ws_NameOk p0.host x9 q10) rfl (.cons (.free rfl) .nil) trivial memNil .nil memNil rfl trivial memNil rfl rfl rfl rfl rfl rfl ?_
       refine s_pickT rfl rfl (by conv => lhs; whnf) rfl rfl rfl ?_
       refine m1 ?_
       refine s_split (t := 41) rfl (fun b11 => ?_) (fun b11 => ?_)
       ·replace h := cond_t h b11
        refine s_fieldAddr rfl rfl fd62_5 rfl rfl rfl rfl ?_
        refine s_load rfl rfl rfl rfl ty9 rfl (.inr rfl) (by conv => lhs; whnf) rfl rfl rfl ?_
        refine s_of (st_eqS rfl rfl rfl) rfl rfl rfl rfl ?_
        refine s_pickT rfl rfl (by conv => lhs; whnf) rfl rfl rfl ?_
        refine m2 ?_
        refine rt_nil ?_
        refine tri_ret ?_
        have e0 := (some1 h); subst e0
        exact endY [] [] (rvC (resTmp rfl) rvN) trivial trivial rfl rfl rfl rfl (.free rfl)
       ·replace h := cond_f h b11
        refine s_skip rfl rfl rfl ?_
        refine s_skip rfl rfl rfl ?_
        refine s_skip rfl rfl rfl ?_
        refine s_pickF rfl rfl (v := .sc (.bool false)) rfl rfl rfl rfl ?_
        refine m2 ?_
        refine rt_nil ?_
        refine tri_ret ?_
        have e0 := (some1 h); subst e0
        exact endY [] [] (rvC (resTmp rfl) rvN) trivial trivial rfl rfl rfl rfl (.free rfl)
      ·replace h := cond_f h b8
       refine s_skip rfl rfl rfl ?_
       refine s_skip rfl rfl rfl ?_
       refine s_skip rfl rfl rfl ?_
       refine s_pickF rfl rfl (v := .sc (.bool false)) rfl rfl rfl rfl ?_
       refine m1 ?_
       refine s_skip rfl rfl rfl ?_
       refine s_skip rfl rfl rfl ?_
       refine s_skip rfl rfl rfl ?_
       refine s_pickF rfl rfl (v := .sc (.bool false)) rfl rfl rfl rfl ?_
       refine m2 ?_
       refine rt_nil ?_
       refine tri_ret ?_
       have e0 := (some1 h); subst e0
       exact endY [] [] (rvC (resTmp rfl) rvN) trivial trivial rfl rfl rfl rfl (.free rfl)
     ·replace h := cond_f h c7
      refine tri_sr ?_
      refine s_of (st_eqI rfl rfl rfl) rfl rfl rfl rfl ?_
      refine m2 ?_
      refine rt_nil ?_
      refine tri_cond rfl (fun c12 => ?_) (fun c12 => ?_)
      ·replace h := cond_t h c12
       refine tri_sr ?_
       refine s_fieldAddr rfl rfl fd62_3 rfl rfl rfl rfl ?_
       refine s_load rfl rfl rfl rfl ty3 rfl (.inr rfl) (by conv => lhs; whnf) rfl rfl rfl ?_
       refine bnd1_elim h fun x13 q14 h => ?_
       refine s_callN (kb := []) (ns := []) (v := .sc (.bool x13)) rfl rfl cl36 (ws_l1In p0.n 0 100000 x13 q14) rfl (.cons (.free rfl) (.cons (.free rfl) (.cons (.free rfl) .nil))) trivial memNil .nil memNil rfl trivial memNil rfl rfl rfl rfl rfl rfl ?_
       refine m1 ?_
       refine s_split (t := 51) rfl (fun b15 => ?_) (fun b15 => ?_)
       ·replace h := cond_t h b15
        refine s_fieldAddr rfl rfl fd62_4 rfl rfl rfl rfl ?_
        refine s_load rfl rfl rfl rfl ty9 rfl (.inr rfl) (by conv => lhs; whnf) rfl rfl rfl ?_
        refine bnd1_elim h fun x16 q17 h => ?_
        refine s_callN (kb := []) (ns := []) (v := .sc (.bool x16)) rfl rfl cl30 (ws_NameOk p0.host x16 q17) rfl (.cons (.free rfl) .nil) trivial memNil .nil memNil rfl trivial memNil rfl rfl rfl rfl rfl rfl ?_
        refine s_pickT rfl rfl (by conv => lhs; whnf) rfl rfl rfl ?_
        refine m1 ?_
        refine s_split (t := 56) rfl (fun b18 => ?_) (fun b18 => ?_)
        ·replace h := cond_t h b18
         refine s_fieldAddr rfl rfl fd62_5 rfl rfl rfl rfl ?_
         refine s_load rfl rfl rfl rfl ty9 rfl (.inr rfl) (by conv => lhs; whnf) rfl rfl rfl ?_
         refine s_of (st_eqS rfl rfl rfl) rfl rfl rfl rfl ?_
         refine s_pickT rfl rfl (by conv => lhs; whnf) rfl rfl rfl ?_
         refine m2 ?_
         refine rt_nil ?_
         refine tri_ret ?_
         have e0 := (some1 h); subst e0
         exact endY [] [] (rvC (resTmp rfl) rvN) trivial trivial rfl rfl rfl rfl (.free rfl)
        ·replace h := cond_f h b18
         refine s_skip rfl rfl rfl ?_
         refine s_skip rfl rfl rfl ?_
         refine s_skip rfl rfl rfl ?_
         refine s_pickF rfl rfl (v := .sc (.bool false)) rfl rfl rfl rfl ?_
         refine m2 ?_
         refine rt_nil ?_
         refine tri_ret ?_
         have e0 := (some1 h); subst e0
         exact endY [] [] (rvC (resTmp rfl) rvN) trivial trivial rfl rfl rfl rfl (.free rfl)
       ·replace h := cond_f h b15
        refine s_skip rfl rfl rfl ?_
        refine s_skip rfl rfl rfl ?_
        refine s_skip rfl rfl rfl ?_
        refine s_pickF rfl rfl (v := .sc (.bool false)) rfl rfl rfl rfl ?_
        refine m1 ?_
        refine s_skip rfl rfl rfl ?_
        refine s_skip rfl rfl rfl ?_
        refine s_skip rfl rfl rfl ?_
        refine s_pickF rfl rfl (v := .sc (.bool false)) rfl rfl rfl rfl ?_
        refine m2 ?_
        refine rt_nil ?_
        refine tri_ret ?_
        have e0 := (some1 h); subst e0
        exact endY [] [] (rvC (resTmp rfl) rvN) trivial trivial rfl rfl rfl rfl (.free rfl)
      ·replace h := cond_f h c12
       refine tri_skip ?_
       refine tri_sr ?_
       refine s_fieldAddr rfl rfl fd62_1 rfl rfl rfl rfl ?_
       refine s_load rfl rfl rfl rfl ty3 rfl (.inr rfl) (by conv => lhs; whnf) rfl rfl rfl ?_
       refine s_of (st_eqI rfl rfl rfl) rfl rfl rfl rfl ?_
       refine m1 ?_
       refine s_split (t := 64) rfl (fun b19 => ?_) (fun b19 => ?_)
       ·replace h := cond_t h b19
        refine s_fieldAddr rfl rfl fd62_3 rfl rfl rfl rfl ?_
        refine s_load rfl rfl rfl rfl ty3 rfl (.inr rfl) (by conv => lhs; whnf) rfl rfl rfl ?_
        refine s_of (st_eqI rfl rfl rfl) rfl rfl rfl rfl ?_
        refine s_pickT rfl rfl (by conv => lhs; whnf) rfl rfl rfl ?_
        refine m1 ?_
        refine s_split (t := 69) rfl (fun b20 => ?_) (fun b20 => ?_)
        ·replace h := cond_t h b20
         refine s_fieldAddr rfl rfl fd62_4 rfl rfl rfl rfl ?_
         refine s_load rfl rfl rfl rfl ty9 rfl (.inr rfl) (by conv => lhs; whnf) rfl rfl rfl ?_
         refine s_of (st_eqS rfl rfl rfl) rfl rfl rfl rfl ?_
         refine s_pickT rfl rfl (by conv => lhs; whnf) rfl rfl rfl ?_
         refine m1 ?_
         refine s_split (t := 74) rfl (fun b21 => ?_) (fun b21 => ?_)
         ·replace h := cond_t h b21
          refine s_fieldAddr rfl rfl fd62_5 rfl rfl rfl rfl ?_
          refine s_load rfl rfl rfl rfl ty9 rfl (.inr rfl) (by conv => lhs; whnf) rfl rfl rfl ?_
          refine bnd1_elim h fun x22 q23 h => ?_
          refine s_callN (kb := []) (ns := []) (v := .sc (.bool x22)) rfl rfl cl63 (ws_l5Text p0.text x22 q23) rfl (.cons (.free rfl) .nil) trivial memNil .nil memNil rfl trivial memNil rfl rfl rfl rfl rfl rfl ?_
          refine s_pickT rfl rfl (by conv => lhs; whnf) rfl rfl rfl ?_
          refine m2 ?_
          refine rt_nil ?_
          refine tri_ret ?_
          have e0 := (some1 h); subst e0
          exact endY [] [] (rvC (resTmp rfl) rvN) trivial trivial rfl rfl rfl rfl (.free rfl)
         ·replace h := cond_f h b21
          refine s_skip rfl rfl rfl ?_
          refine s_skip rfl rfl rfl ?_
          refine s_skip rfl rfl rfl ?_
          refine s_pickF rfl rfl (v := .sc (.bool false)) rfl rfl rfl rfl ?_
          refine m2 ?_
          refine rt_nil ?_
          refine tri_ret ?_
          have e0 := (some1 h); subst e0
          exact endY [] [] (rvC (resTmp rfl) rvN) trivial trivial rfl rfl rfl rfl (.free rfl)
        ·replace h := cond_f h b20
         refine s_skip rfl rfl rfl ?_
         refine s_skip rfl rfl rfl ?_
         refine s_skip rfl rfl rfl ?_
         refine s_pickF rfl rfl (v := .sc (.bool false)) rfl rfl rfl rfl ?_
         refine m1 ?_
         refine s_skip rfl rfl rfl ?_
         refine s_skip rfl rfl rfl ?_
         refine s_skip rfl rfl rfl ?_
         refine s_pickF rfl rfl (v := .sc (.bool false)) rfl rfl rfl rfl ?_
         refine m2 ?_
         refine rt_nil ?_
         refine tri_ret ?_
         have e0 := (some1 h); subst e0
         exact endY [] [] (rvC (resTmp rfl) rvN) trivial trivial rfl rfl rfl rfl (.free rfl)
       ·replace h := cond_f h b19
        refine s_skip rfl rfl rfl ?_
        refine s_skip rfl rfl rfl ?_
        refine s_skip rfl rfl rfl ?_
        refine s_pickF rfl rfl (v := .sc (.bool false)) rfl rfl rfl rfl ?_
        refine m1 ?_
        refine s_skip rfl rfl rfl ?_
        refine s_skip rfl rfl rfl ?_
        refine s_skip rfl rfl rfl ?_
        refine s_pickF rfl rfl (v := .sc (.bool false)) rfl rfl rfl rfl ?_
        refine m1 ?_
        refine s_skip rfl rfl rfl ?_
        refine s_skip rfl rfl rfl ?_
        refine s_skip rfl rfl rfl ?_
        refine s_pickF rfl rfl (v := .sc (.bool false)) rfl rfl rfl rfl ?_
        refine m2 ?_
        refine rt_nil ?_
        refine tri_ret ?_
        have e0 := (some1 h); subst e0
        exact endY [] [] (rvC (resTmp rfl) rvN) trivial trivial rfl rfl rfl rfl (.free rfl)

end Go.Abs.M
