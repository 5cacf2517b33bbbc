/- Walks of the functions that the law of FnDataSame reaches: what each of them computes, where its pure function does not fail. -/
import Derived.Test.YtbkmnbpgpklojaaDoorFnsFnDataSame
import Derived.Test.YtbkmnbpgpklojaaDoorChecked
set_option linter.unusedSimpArgs false
set_option linter.unusedVariables false
namespace Go.Abs.M
open Go Go.Abs Go.Proofs
theorem cl112 : callable Tryd.prog 112 = true := by kernel_rfl
theorem cl113 : callable Tryd.prog 113 = true := by kernel_rfl
theorem cl114 : callable Tryd.prog 114 = true := by kernel_rfl
theorem cl115 : callable Tryd.prog 115 = true := by kernel_rfl
theorem cl116 : callable Tryd.prog 116 = true := by kernel_rfl
theorem cl117 : callable Tryd.prog 117 = true := by kernel_rfl
theorem cl118 : callable Tryd.prog 118 = true := by kernel_rfl
theorem cl119 : callable Tryd.prog 119 = true := by kernel_rfl
theorem cl120 : callable Tryd.prog 120 = true := by kernel_rfl
theorem cl121 : callable Tryd.prog 121 = true := by kernel_rfl
theorem cl124 : callable Tryd.prog 124 = true := by kernel_rfl
theorem cl140 : callable Tryd.prog 140 = true := by kernel_rfl
theorem cl145 : callable Tryd.prog 145 = true := by kernel_rfl
theorem cl152 : callable Tryd.prog 152 = true := by kernel_rfl
theorem cl164 : callable Tryd.prog 164 = true := by kernel_rfl
theorem cl165 : callable Tryd.prog 165 = true := by kernel_rfl
theorem cl166 : callable Tryd.prog 166 = true := by kernel_rfl
theorem cl167 : callable Tryd.prog 167 = true := by kernel_rfl
theorem cl168 : callable Tryd.prog 168 = true := by kernel_rfl
theorem cl169 : callable Tryd.prog 169 = true := by kernel_rfl
theorem cl170 : callable Tryd.prog 170 = true := by kernel_rfl
theorem cl176 : callable Tryd.prog 176 = true := by kernel_rfl
theorem cl193 : callable Tryd.prog 193 = true := by kernel_rfl
theorem cl194 : callable Tryd.prog 194 = true := by kernel_rfl
theorem cl195 : callable Tryd.prog 195 = true := by kernel_rfl
theorem cl46 : callable Tryd.prog 46 = true := by kernel_rfl
theorem cl88 : callable Tryd.prog 88 = true := by kernel_rfl
theorem cl91 : callable Tryd.prog 91 = true := by kernel_rfl
theorem cl92 : callable Tryd.prog 92 = true := by kernel_rfl
theorem cl98 : callable Tryd.prog 98 = true := by kernel_rfl
theorem fd136_0 : fldTy Tryd.prog 136 0 = some (0, 0 + 1, false) := by kernel_rfl
theorem fd136_1 : fldTy Tryd.prog 136 1 = some (1, 0 + 1, false) := by kernel_rfl
theorem fd136_2 : fldTy Tryd.prog 136 2 = some (2, 0 + 1, false) := by kernel_rfl
theorem fd39_0 : fldTy Tryd.prog 39 0 = some (0, 0 + 1, false) := by kernel_rfl
theorem fd39_1 : fldTy Tryd.prog 39 1 = some (1, 0 + 1, false) := by kernel_rfl
theorem fd39_2 : fldTy Tryd.prog 39 2 = some (2, 0 + 1, false) := by kernel_rfl
theorem fd39_3 : fldTy Tryd.prog 39 3 = some (3, 0 + 1, false) := by kernel_rfl
theorem fd39_4 : fldTy Tryd.prog 39 4 = some (4, 0 + 1, false) := by kernel_rfl
theorem fd39_5 : fldTy Tryd.prog 39 5 = some (5, 0 + 1, false) := by kernel_rfl
theorem fk39 : flatK Tryd.prog 39 = some [2, 1, 1, 1, 2, 2] := by kernel_rfl
theorem ik3 : intK Tryd.prog 3 = some .i64 := by kernel_rfl
theorem ik5 : intK Tryd.prog 5 = some .u8 := by kernel_rfl
theorem iss9 : isStr Tryd.prog 9 = true := by kernel_rfl
theorem sl22 : slTy Tryd.prog 22 = some (5, 1, 1) := by kernel_rfl
theorem sl24 : slTy Tryd.prog 24 = some (39, 6, 72) := by kernel_rfl
theorem sl33 : slTy Tryd.prog 33 = some (9, 1, 16) := by kernel_rfl
theorem sl76 : slTy Tryd.prog 76 = some (3, 1, 8) := by kernel_rfl
theorem stc136 : strTy Tryd.prog 136 = some ([(0, 1), (1, 1), (2, 1)], [.slice none 0 0, .int .i64 0, .int .i64 0]) := by kernel_rfl
theorem stc39 : strTy Tryd.prog 39 = some ([(0, 1), (1, 1), (2, 1), (3, 1), (4, 1), (5, 1)], [.string ⟨#[]⟩, .int .i64 0, .int .i64 0, .int .i64 0, .string ⟨#[]⟩, .string ⟨#[]⟩]) := by kernel_rfl
theorem ty22 : tyK Tryd.prog 22 = some (false, 1) := by kernel_rfl
theorem ty24 : tyK Tryd.prog 24 = some (false, 1) := by kernel_rfl
theorem ty3 : tyK Tryd.prog 3 = some (false, 1) := by kernel_rfl
theorem ty39 : tyK Tryd.prog 39 = some (true, 6) := by kernel_rfl
theorem ty5 : tyK Tryd.prog 5 = some (false, 1) := by kernel_rfl
theorem ty9 : tyK Tryd.prog 9 = some (false, 1) := by kernel_rfl
theorem zc24 : zeroC Tryd.prog 24 = some [.slice none 0 0] := by kernel_rfl
theorem zc3 : zeroC Tryd.prog 3 = some [.int .i64 0] := by kernel_rfl
theorem zc39 : zeroC Tryd.prog 39 = some [.string ⟨#[]⟩, .int .i64 0, .int .i64 0, .int .i64 0, .string ⟨#[]⟩, .string ⟨#[]⟩] := by kernel_rfl
theorem zc9 : zeroC Tryd.prog 9 = some [.string ⟨#[]⟩] := by kernel_rfl
theorem mixed : Tryd.prog.follows .mixedOrders = true := by kernel_rfl
/- laws.big -/

set_option maxRecDepth 4000 in
set_option maxHeartbeats 800000 in
theorem ww_big (p0 : List Int) (r0 : Bool) (h : w_big p0 = some r0) : Runs Tryd.prog 11 [.lst 1 (List.map byteV p0)] [] (.sc (.bool r0)) [] := by
 unfold w_big at h
 refine runsR [.tmp 2] Tryd.func11 rfl rfl rfl rfl ?_
 rw [Tryd.ntmps11]
 refine tri_sr ?_
 refine s_mv (.inr rfl) (v := .sc (.bool false)) rfl rfl rfl rfl ?_
 refine rt_nil ?_
 refine tri_sr ?_
 refine m1 ?_
 refine s_lenL rfl sl22 rfl rfl rfl rfl ?_
 refine s_of (st_gtr rfl rfl rfl) rfl rfl rfl rfl ?_
 refine m2 ?_
 refine rt_nil ?_
 refine tri_ret ?_
 have e0 := (some1 h); subst e0
 exact endY [] [] (rvC (resTmp rfl) rvN) trivial trivial rfl rfl rfl rfl (.free rfl)

/- spec.l1New -/
def inv_s_l1New_2 (p0 : List Int) (v1_0 : Int) (v1_1 : Int) (j2_0 : Bool) : St := mkT 32 [(0, .lst 1 (List.map byteV p0)), (3, .sc (.int .i64 v1_0)), (4, .sc (.int .i64 v1_1)), (15, .sc (.bool j2_0))] []
def inv_s_l1New_1 (p0 : List Int) (v1_0 : Int) (v1_1 : Int) : St := mkT 32 [(0, .lst 1 (List.map byteV p0)), (3, .sc (.int .i64 v1_0)), (4, .sc (.int .i64 v1_1))] []
def inv_s_l1New_0 (p0 : List Int) (j0_0 : Int) : St := mkT 32 [(0, .lst 1 (List.map byteV p0)), (3, .sc (.int .i64 j0_0))] []
set_option maxRecDepth 4000 in
set_option maxHeartbeats 800000 in
theorem ws_l1New (p0 : List Int) (r0 : Cur) (h : s_l1New p0 = some r0) : Runs Tryd.prog 88 [.lst 1 (List.map byteV p0)] [] (.obox 136 (curV r0)) [] := by
 unfold s_l1New at h
 refine runsR [.tmp 2] Tryd.func88 rfl rfl rfl rfl ?_
 rw [Tryd.ntmps88]
 refine tri_sr ?_
 refine s_mv (.inr rfl) (v := .sc (.pointer none)) rfl rfl rfl rfl ?_
 refine rt_nil ?_
 refine tri_sr ?_
 refine m1 ?_
 refine s_lenL rfl sl22 rfl rfl rfl rfl ?_
 refine s_of (st_add rfl rfl rfl) rfl rfl rfl rfl ?_
 refine m2 ?_
 refine rt_nil ?_
 refine tri_cutI (ι := { p : Int // s_l1New_j0 p0 p = some r0 }) (fun p => inv_s_l1New_0 p0 p.1) ?_ ?_
 ·skip
  refine tri_sr ?_
  refine s_mv (.inr rfl) (v := .sc (.int .i64 0)) rfl rfl rfl rfl ?_
  refine rt_nil ?_
  refine tri_block ?_
  refine tri_loop (ι := { p : Nat × Int × Int // s_l1New_l1 p0 p.1 p.2.1 p.2.2 = some r0 }) (fun p => inv_s_l1New_1 p0 p.1.2.1 p.1.2.2) (fun p => p.1.1) ⟨(fuel0, IntKind.i64.wrap (160909 + (p0.length : Int)), 0), h⟩ ?_ ?_
  ·skip
   refine entX [] [] trivial trivial rfl rfl ?_
   exact ⟨(.free rfl), (.free rfl), (.free rfl), trivial⟩
  ·rintro ⟨⟨f1, v1_0, v1_1⟩, h⟩
   replace h : s_l1New_l1 p0 f1 v1_0 v1_1 = some r0 := h
   cases f1 with
   | zero => cases h
   | succ f1 =>
   rw [s_l1New_l1] at h
   show Tri _ _ _ (inv_s_l1New_1 p0 v1_0 v1_1)
   refine tri_seq ?_
   refine tri_cutI (ι := { p : Bool // s_l1New_j2 p0 v1_0 v1_1 (s_l1New_l1 p0 f1) p = some r0 }) (fun p => inv_s_l1New_2 p0 v1_0 v1_1 p.1) ?_ ?_
   ·skip
    refine tri_region ?_
    refine m1 ?_
    refine m1 ?_
    refine s_lenL rfl sl22 rfl rfl rfl rfl ?_
    refine s_of (st_lss rfl rfl rfl) rfl rfl rfl rfl ?_
    refine m1 ?_
    refine s_split (t := 12) rfl (fun b1 => ?_) (fun b1 => ?_)
    ·replace h := cond_t h b1
     refine m1 ?_
     refine s_of (st_lss rfl rfl rfl) rfl rfl rfl rfl ?_
     refine s_pickT rfl rfl (by conv => lhs; whnf) rfl rfl rfl ?_
     refine rt_nil ?_
     refine Exists.intro ⟨decide (v1_1 < 4000), h⟩ ?_
     refine entX [] [] trivial trivial rfl rfl ?_
     exact ⟨(.free rfl), (.free rfl), (.free rfl), (.free rfl), trivial⟩
    ·replace h := cond_f h b1
     refine s_skip rfl rfl rfl ?_
     refine s_skip rfl rfl rfl ?_
     refine s_pickF rfl rfl (v := .sc (.bool false)) rfl rfl rfl rfl ?_
     refine rt_nil ?_
     refine Exists.intro ⟨false, h⟩ ?_
     refine entX [] [] trivial trivial rfl rfl ?_
     exact ⟨(.free rfl), (.free rfl), (.free rfl), (.free rfl), trivial⟩
   ·rintro ⟨j2_0, h⟩
    replace h : s_l1New_j2 p0 v1_0 v1_1 (s_l1New_l1 p0 f1) j2_0 = some r0 := h
    unfold s_l1New_j2 at h
    show Tri _ _ _ (inv_s_l1New_2 p0 v1_0 v1_1 j2_0)
    refine tri_cond rfl (fun c1 => ?_) (fun c1 => ?_)
    ·replace h := cond_t h c1
     refine tri_skip ?_
     refine tri_seq ?_
     refine tri_block ?_
     refine tri_region ?_
     refine m1 ?_
     refine s_of (st_mul rfl rfl rfl) rfl rfl rfl rfl ?_
     refine m1 ?_
     refine m1 ?_
     refine bnd1_elim h fun x2 q3 h => ?_
     have q3a := (idx_some q3).1; have q3b := (idx_some q3).2
     refine s_indexFZ rfl rfl rfl sl22 q3a (get_ltM q3b) rfl rfl rfl ?_
     refine s_loadF rfl rfl (rowG q3b) ty5 rfl (.inr rfl) (by conv => lhs; whnf) rfl rfl rfl ?_
     refine s_of (st_conv ik5 ik3 rfl rfl) rfl rfl rfl rfl ?_
     refine s_of (st_add rfl rfl rfl) rfl rfl rfl rfl ?_
     refine s_of (st_add rfl rfl rfl) rfl rfl rfl rfl ?_
     refine s_of (st_andD rfl rfl rfl) rfl rfl rfl rfl ?_
     refine m2 ?_
     refine rt_nil ?_
     refine tri_region ?_
     refine m1 ?_
     refine s_of (st_add rfl rfl rfl) rfl rfl rfl rfl ?_
     refine m2 ?_
     refine rt_nil ?_
     refine Exists.intro ⟨(f1, iand .i64 (IntKind.i64.wrap ((IntKind.i64.wrap ((IntKind.i64.wrap (v1_0 * 137)) + (IntKind.i64.wrap x2))) + 11)) 1073741823, IntKind.i64.wrap (v1_1 + 1)), h⟩ (And.intro (Nat.lt_succ_self _) ?_)
     refine entX [] [] trivial trivial rfl rfl ?_
     exact ⟨(.free rfl), (.free rfl), (.free rfl), trivial⟩
    ·replace h := cond_f h c1
     refine tri_exit ?_
     refine Exists.intro ⟨v1_0, h⟩ ?_
     refine entX [] [] trivial trivial rfl rfl ?_
     exact ⟨(.free rfl), (.free rfl), trivial⟩
 ·rintro ⟨j0_0, h⟩
  replace h : s_l1New_j0 p0 j0_0 = some r0 := h
  unfold s_l1New_j0 at h
  show Tri _ _ _ (inv_s_l1New_0 p0 j0_0)
  refine tri_sr ?_
  refine m1 ?_
  refine m1 ?_
  refine s_build (cells' := [.lst 1 (List.map byteV p0), .sc (.int .i64 0), .sc (.int .i64 j0_0)]) rfl stc136 rfl rfl rfl rfl rfl rfl rfl ?_
  refine s_box rfl rfl rfl rfl rfl rfl rfl ?_
  refine m2 ?_
  refine rt_nil ?_
  refine tri_ret ?_
  have e0 := (some1 h); subst e0
  exact endY (v' := .ptr (2000, 0) 0 0) [((2000, 0), ⟨136, 3, [[.lst 1 (List.map byteV p0), .sc (.int .i64 0), .sc (.int .i64 j0_0)]], false, true⟩, some (31, 0))] [] (rvC (resTmp rfl) rvN) ⟨⟨rfl, _, rfl, rfl, rfl, rfl, id, rowsCv_one (.cons (.free rfl) (.cons (.free rfl) (.cons (.free rfl) .nil))), rowsZ_one rfl⟩, trivial⟩ trivial rfl rfl (by kernel_rfl) (by simp only [V.mat, V.mat1, V.mat0, matL, matT, List.length_map] <;> rfl) (.ptr rfl)

/- spec.l1Byte -/

set_option maxRecDepth 4000 in
set_option maxHeartbeats 800000 in
theorem ws_l1Byte (p0 : Cur) (r0 : Int) (r1 : Cur) (h : s_l1Byte p0 = some (r0, r1)) : Runs Tryd.prog 167 [.ptr (1000, 0) 0 0] [⟨136, 3, [[.lst 1 (List.map byteV p0.b), .sc (.int .i64 p0.i), .sc (.int .i64 p0.h)]], false, false⟩] (.sc (.int .i64 r0)) [⟨136, 3, [[.lst 1 (List.map byteV r1.b), .sc (.int .i64 r1.i), .sc (.int .i64 r1.h)]], false, false⟩] := by
 unfold s_l1Byte at h
 refine runsR [.tmp 2] Tryd.func167 rfl rfl rfl rfl ?_
 rw [Tryd.ntmps167]
 refine tri_sr ?_
 refine s_mv (.inr rfl) (v := .sc (.int .i64 0)) rfl rfl rfl rfl ?_
 refine rt_nil ?_
 refine tri_sr ?_
 refine m1 ?_
 refine m1 ?_
 refine s_nilCheck rfl (by conv => lhs; whnf) (.inl ⟨_, _, _, rfl⟩) rfl rfl rfl ?_
 refine s_fieldAddr rfl rfl fd136_2 rfl rfl rfl rfl ?_
 refine s_load rfl rfl rfl rfl ty3 rfl (.inr rfl) (by conv => lhs; whnf) rfl rfl rfl ?_
 refine s_of (st_mul rfl rfl rfl) rfl rfl rfl rfl ?_
 refine s_of (st_add rfl rfl rfl) rfl rfl rfl rfl ?_
 refine s_nilCheck rfl (by conv => lhs; whnf) (.inl ⟨_, _, _, rfl⟩) rfl rfl rfl ?_
 refine s_fieldAddr rfl rfl fd136_2 rfl rfl rfl rfl ?_
 refine s_store (rows' := [[.lst 1 (List.map byteV p0.b), .sc (.int .i64 p0.i), .sc (.int .i64 (IntKind.i64.wrap ((IntKind.i64.wrap (p0.h * 6364136223846793005)) + 1442695040888963407)))]]) rfl rfl rfl rfl ty3 rfl rfl rfl rfl rfl rfl ?_
 refine rt_nil ?_
 refine tri_seq ?_
 refine tri_draw mixed ?_
 refine m1 ?_
 refine s_nilCheck rfl (by conv => lhs; whnf) (.inl ⟨_, _, _, rfl⟩) rfl rfl rfl ?_
 refine s_fieldAddr rfl rfl fd136_2 rfl rfl rfl rfl ?_
 refine s_load rfl rfl rfl rfl ty3 rfl (.inr rfl) (by conv => lhs; whnf) rfl rfl rfl ?_
 refine s_of (st_shrD (b := 33) rfl rfl rfl) rfl rfl rfl rfl ?_
 refine m1 ?_
 refine s_nilCheck rfl (by conv => lhs; whnf) (.inl ⟨_, _, _, rfl⟩) rfl rfl rfl ?_
 refine s_fieldAddr rfl rfl fd136_2 rfl rfl rfl rfl ?_
 refine s_load rfl rfl rfl rfl ty3 rfl (.inr rfl) (by conv => lhs; whnf) rfl rfl rfl ?_
 refine s_of (st_shrD (b := 47) rfl rfl rfl) rfl rfl rfl rfl ?_
 refine s_of (st_xorD rfl rfl rfl) rfl rfl rfl rfl ?_
 refine s_of (st_andD rfl rfl rfl) rfl rfl rfl rfl ?_
 refine m2 ?_
 refine rt_nil ⟨by kernel_rfl, ?_⟩
 refine tri_seq ?_
 refine tri_seq ?_
 refine tri_draw mixed ?_
 refine m1 ?_
 refine s_nilCheck rfl (by conv => lhs; whnf) (.inl ⟨_, _, _, rfl⟩) rfl rfl rfl ?_
 refine s_fieldAddr rfl rfl fd136_1 rfl rfl rfl rfl ?_
 refine s_load rfl rfl rfl rfl ty3 rfl (.inr rfl) (by conv => lhs; whnf) rfl rfl rfl ?_
 refine m1 ?_
 refine s_nilCheck rfl (by conv => lhs; whnf) (.inl ⟨_, _, _, rfl⟩) rfl rfl rfl ?_
 refine s_fieldAddr rfl rfl fd136_0 rfl rfl rfl rfl ?_
 refine s_load rfl rfl rfl rfl ty22 rfl (.inr rfl) (by conv => lhs; whnf) rfl rfl rfl ?_
 refine s_lenL rfl sl22 rfl rfl rfl rfl ?_
 refine s_of (st_lss rfl rfl rfl) rfl rfl rfl rfl ?_
 refine rt_nil ⟨by kernel_rfl, ?_⟩
 refine tri_cond rfl (fun c1 => ?_) (fun c1 => ?_)
 ·replace h := cond_t h c1
  refine tri_seq ?_
  refine tri_draw mixed ?_
  refine m1 ?_
  refine m1 ?_
  refine s_nilCheck rfl (by conv => lhs; whnf) (.inl ⟨_, _, _, rfl⟩) rfl rfl rfl ?_
  refine s_fieldAddr rfl rfl fd136_0 rfl rfl rfl rfl ?_
  refine s_load rfl rfl rfl rfl ty22 rfl (.inr rfl) (by conv => lhs; whnf) rfl rfl rfl ?_
  refine m1 ?_
  refine s_nilCheck rfl (by conv => lhs; whnf) (.inl ⟨_, _, _, rfl⟩) rfl rfl rfl ?_
  refine s_fieldAddr rfl rfl fd136_1 rfl rfl rfl rfl ?_
  refine s_load rfl rfl rfl rfl ty3 rfl (.inr rfl) (by conv => lhs; whnf) rfl rfl rfl ?_
  refine bnd1_elim h fun x2 q3 h => ?_
  have q3a := (idx_some q3).1; have q3b := (idx_some q3).2
  refine s_indexFZ rfl rfl rfl sl22 q3a (get_ltM q3b) rfl rfl rfl ?_
  refine s_loadF rfl rfl (rowG q3b) ty5 rfl (.inr rfl) (by conv => lhs; whnf) rfl rfl rfl ?_
  refine s_of (st_conv ik5 ik3 rfl rfl) rfl rfl rfl rfl ?_
  refine s_of (st_add rfl rfl rfl) rfl rfl rfl rfl ?_
  refine s_of (st_andD rfl rfl rfl) rfl rfl rfl rfl ?_
  refine m2 ?_
  refine rt_nil ⟨by kernel_rfl, ?_⟩
  refine tri_region ?_
  refine m1 ?_
  refine m1 ?_
  refine s_nilCheck rfl (by conv => lhs; whnf) (.inl ⟨_, _, _, rfl⟩) rfl rfl rfl ?_
  refine s_fieldAddr rfl rfl fd136_1 rfl rfl rfl rfl ?_
  refine s_load rfl rfl rfl rfl ty3 rfl (.inr rfl) (by conv => lhs; whnf) rfl rfl rfl ?_
  refine s_of (st_add rfl rfl rfl) rfl rfl rfl rfl ?_
  refine s_nilCheck rfl (by conv => lhs; whnf) (.inl ⟨_, _, _, rfl⟩) rfl rfl rfl ?_
  refine s_fieldAddr rfl rfl fd136_1 rfl rfl rfl rfl ?_
  refine s_store (rows' := [[.lst 1 (List.map byteV p0.b), .sc (.int .i64 (IntKind.i64.wrap (p0.i + 1))), .sc (.int .i64 (IntKind.i64.wrap ((IntKind.i64.wrap (p0.h * 6364136223846793005)) + 1442695040888963407)))]]) rfl rfl rfl rfl ty3 rfl rfl rfl rfl rfl rfl ?_
  refine rt_nil ?_
  refine tri_sr ?_
  refine m1 ?_
  refine m2 ?_
  refine rt_nil ?_
  refine tri_ret ?_
  have e0 := (some2 h).1; have e1 := (some2 h).2; subst e0; subst e1
  exact endY [((1000, 0), ⟨136, 3, [[.lst 1 (List.map byteV p0.b), .sc (.int .i64 (IntKind.i64.wrap (p0.i + 1))), .sc (.int .i64 (IntKind.i64.wrap ((IntKind.i64.wrap (p0.h * 6364136223846793005)) + 1442695040888963407)))]], false, false⟩, some (1000, 0))] [] (rvC (resTmp rfl) rvN) ⟨⟨rfl, _, rfl, rfl, rfl, rfl, id, rowsCv_one (.cons (.free rfl) (.cons (.free rfl) (.cons (.free rfl) .nil))), rowsZ_one rfl⟩, trivial⟩ trivial rfl rfl (by kernel_rfl) rfl (.free rfl)
 ·replace h := cond_f h c1
  refine tri_skip ?_
  refine tri_sr ?_
  refine m1 ?_
  refine m2 ?_
  refine rt_nil ?_
  refine tri_ret ?_
  have e0 := (some2 h).1; have e1 := (some2 h).2; subst e0; subst e1
  exact endY [((1000, 0), ⟨136, 3, [[.lst 1 (List.map byteV p0.b), .sc (.int .i64 p0.i), .sc (.int .i64 (IntKind.i64.wrap ((IntKind.i64.wrap (p0.h * 6364136223846793005)) + 1442695040888963407)))]], false, false⟩, some (1000, 0))] [] (rvC (resTmp rfl) rvN) ⟨⟨rfl, _, rfl, rfl, rfl, rfl, id, rowsCv_one (.cons (.free rfl) (.cons (.free rfl) (.cons (.free rfl) .nil))), rowsZ_one rfl⟩, trivial⟩ trivial rfl rfl (by kernel_rfl) rfl (.free rfl)

/- spec.l1Below -/

set_option maxRecDepth 4000 in
set_option maxHeartbeats 800000 in
theorem ws_l1Below (p0 : Cur) (p1 : Int) (r0 : Int) (r1 : Cur) (h : s_l1Below p0 p1 = some (r0, r1)) : Runs Tryd.prog 116 [.ptr (1000, 0) 0 0, .sc (.int .i64 p1)] [⟨136, 3, [[.lst 1 (List.map byteV p0.b), .sc (.int .i64 p0.i), .sc (.int .i64 p0.h)]], false, false⟩] (.sc (.int .i64 r0)) [⟨136, 3, [[.lst 1 (List.map byteV r1.b), .sc (.int .i64 r1.i), .sc (.int .i64 r1.h)]], false, false⟩] := by
 unfold s_l1Below at h
 refine runsR [.tmp 4] Tryd.func116 rfl rfl rfl rfl ?_
 rw [Tryd.ntmps116]
 refine tri_sr ?_
 refine s_mv (.inr rfl) (v := .sc (.int .i64 0)) rfl rfl rfl rfl ?_
 refine rt_nil ?_
 refine tri_seq ?_
 refine tri_sr ?_
 refine m1 ?_
 refine s_of (st_leq rfl rfl rfl) rfl rfl rfl rfl ?_
 refine rt_nil ?_
 refine tri_cond rfl (fun c1 => ?_) (fun c1 => ?_)
 ·replace h := cond_t h c1
  refine tri_sr ?_
  refine s_mv (.inr rfl) (v := .sc (.int .i64 0)) rfl rfl rfl rfl ?_
  refine rt_nil ?_
  refine tri_ret ?_
  have e0 := (some2 h).1; have e1 := (some2 h).2; subst e0; subst e1
  exact endY [((1000, 0), ⟨136, 3, [[.lst 1 (List.map byteV p0.b), .sc (.int .i64 p0.i), .sc (.int .i64 p0.h)]], false, false⟩, some (1000, 0))] [] (rvC (resTmp rfl) rvN) ⟨⟨rfl, _, rfl, rfl, rfl, rfl, id, rowsCv_one (.cons (.free rfl) (.cons (.free rfl) (.cons (.free rfl) .nil))), rowsZ_one rfl⟩, trivial⟩ trivial rfl rfl (by kernel_rfl) rfl (.free rfl)
 ·replace h := cond_f h c1
  refine tri_skip ?_
  refine tri_seq ?_
  refine tri_sr ?_
  refine m1 ?_
  refine s_of (st_leq rfl rfl rfl) rfl rfl rfl rfl ?_
  refine rt_nil ?_
  refine tri_cond rfl (fun c2 => ?_) (fun c2 => ?_)
  ·replace h := cond_t h c2
   refine tri_sr ?_
   refine m1 ?_
   refine bnd2_elim h fun x3 x4 q5 h => ?_
   refine s_callZ (kb := []) (ns := [(1000, 0)]) (v := .sc (.int .i64 x3)) rfl rfl cl167 (ws_l1Byte p0 x3 x4 q5) rfl (.cons (.ptrOwn rfl) .nil) ⟨⟨_, rfl, rfl⟩, trivial⟩ (memCons (allFree_one rfl) memNil) (List.nodup_cons.2 ⟨List.not_mem_nil, .nil⟩) memNil trivial rfl trivial (memCons (allFree_one rfl) memNil) rfl rfl rfl rfl rfl rfl ?_
   refine m1 ?_
   refine grd_elim h fun g6 h => ?_
   refine s_of (st_rem rfl rfl rfl g6) rfl rfl rfl rfl ?_
   refine m2 ?_
   refine rt_nil ?_
   refine tri_ret ?_
   have e0 := (some2 h).1; have e1 := (some2 h).2; subst e0; subst e1
   exact endY [((1000, 0), ⟨136, 3, [[.lst 1 (List.map byteV x4.b), .sc (.int .i64 x4.i), .sc (.int .i64 x4.h)]], false, false⟩, some (1000, 0))] [] (rvC (resTmp rfl) rvN) ⟨⟨rfl, _, rfl, rfl, rfl, rfl, id, rowsCv_one (.cons (.free rfl) (.cons (.free rfl) (.cons (.free rfl) .nil))), rowsZ_one rfl⟩, trivial⟩ trivial rfl rfl (by kernel_rfl) rfl (.free rfl)
  ·replace h := cond_f h c2
   refine tri_skip ?_
   refine tri_sr ?_
   refine m1 ?_
   refine bnd2_elim h fun x7 x8 q9 h => ?_
   refine s_callZ (kb := []) (ns := [(1000, 0)]) (v := .sc (.int .i64 x7)) rfl rfl cl167 (ws_l1Byte p0 x7 x8 q9) rfl (.cons (.ptrOwn rfl) .nil) ⟨⟨_, rfl, rfl⟩, trivial⟩ (memCons (allFree_one rfl) memNil) (List.nodup_cons.2 ⟨List.not_mem_nil, .nil⟩) memNil trivial rfl trivial (memCons (allFree_one rfl) memNil) rfl rfl rfl rfl rfl rfl ?_
   refine m2 ?_
   refine rt_nil ?_
   refine tri_sr ?_
   refine m1 ?_
   refine bnd2_elim h fun x10 x11 q12 h => ?_
   refine s_callZ (kb := []) (ns := [(1000, 0)]) (v := .sc (.int .i64 x10)) rfl rfl cl167 (ws_l1Byte x8 x10 x11 q12) rfl (.cons (.ptrOwn rfl) .nil) ⟨⟨_, rfl, rfl⟩, trivial⟩ (memCons (allFree_one rfl) memNil) (List.nodup_cons.2 ⟨List.not_mem_nil, .nil⟩) memNil trivial rfl trivial (memCons (allFree_one rfl) memNil) rfl rfl rfl rfl rfl rfl ?_
   refine m2 ?_
   refine rt_nil ?_
   refine tri_sr ?_
   refine m1 ?_
   refine bnd2_elim h fun x13 x14 q15 h => ?_
   refine s_callZ (kb := []) (ns := [(1000, 0)]) (v := .sc (.int .i64 x13)) rfl rfl cl167 (ws_l1Byte x11 x13 x14 q15) rfl (.cons (.ptrOwn rfl) .nil) ⟨⟨_, rfl, rfl⟩, trivial⟩ (memCons (allFree_one rfl) memNil) (List.nodup_cons.2 ⟨List.not_mem_nil, .nil⟩) memNil trivial rfl trivial (memCons (allFree_one rfl) memNil) rfl rfl rfl rfl rfl rfl ?_
   refine m2 ?_
   refine rt_nil ?_
   refine tri_sr ?_
   refine m1 ?_
   refine grd_elim h fun g16 h => ?_
   refine s_mulI rfl rfl rfl rfl g16 rfl rfl rfl ?_
   refine m1 ?_
   refine grd_elim h fun g17 h => ?_
   refine s_mulI rfl rfl rfl rfl g17 rfl rfl rfl ?_
   refine grd_elim h fun g18 h => ?_
   refine s_addI rfl rfl rfl rfl g18 rfl rfl rfl ?_
   refine m1 ?_
   refine grd_elim h fun g19 h => ?_
   refine s_addI rfl rfl rfl rfl g19 rfl rfl rfl ?_
   refine m1 ?_
   refine grd_elim h fun g20 h => ?_
   refine s_of (st_rem rfl rfl rfl g20) rfl rfl rfl rfl ?_
   refine m2 ?_
   refine rt_nil ?_
   refine tri_ret ?_
   have e0 := (some2 h).1; have e1 := (some2 h).2; subst e0; subst e1
   exact endY [((1000, 0), ⟨136, 3, [[.lst 1 (List.map byteV x14.b), .sc (.int .i64 x14.i), .sc (.int .i64 x14.h)]], false, false⟩, some (1000, 0))] [] (rvC (resTmp rfl) rvN) ⟨⟨rfl, _, rfl, rfl, rfl, rfl, id, rowsCv_one (.cons (.free rfl) (.cons (.free rfl) (.cons (.free rfl) .nil))), rowsZ_one rfl⟩, trivial⟩ trivial rfl rfl (by kernel_rfl) rfl (.free rfl)

/- spec.l1Str -/

set_option maxRecDepth 4000 in
set_option maxHeartbeats 800000 in
theorem ws_l1Str (p0 : Cur) (p1 : List ByteArray) (r0 : ByteArray) (r1 : Cur) (h : s_l1Str p0 p1 = some (r0, r1)) : Runs Tryd.prog 118 [.ptr (1000, 0) 0 0, .lst 1 (List.map strV p1)] [⟨136, 3, [[.lst 1 (List.map byteV p0.b), .sc (.int .i64 p0.i), .sc (.int .i64 p0.h)]], false, false⟩] (.sc (.string r0)) [⟨136, 3, [[.lst 1 (List.map byteV r1.b), .sc (.int .i64 r1.i), .sc (.int .i64 r1.h)]], false, false⟩] := by
 unfold s_l1Str at h
 refine runsR [.tmp 4] Tryd.func118 rfl rfl rfl rfl ?_
 rw [Tryd.ntmps118]
 refine tri_sr ?_
 refine s_mv (.inr rfl) (v := .sc (.string (⟨#[]⟩ : ByteArray))) rfl rfl rfl rfl ?_
 refine rt_nil ?_
 refine tri_sr ?_
 refine m1 ?_
 refine m1 ?_
 refine m1 ?_
 refine s_lenL rfl sl33 rfl rfl rfl rfl ?_
 refine bnd2_elim h fun x1 x2 q3 h => ?_
 refine s_callZ (kb := []) (ns := [(1000, 0)]) (v := .sc (.int .i64 x1)) rfl rfl cl116 (ws_l1Below p0 (p1.length : Int) x1 x2 q3) rfl (.cons (.ptrOwn rfl) (.cons (.free rfl) .nil)) ⟨⟨_, rfl, rfl⟩, trivial⟩ (memCons (allFree_one rfl) memNil) (List.nodup_cons.2 ⟨List.not_mem_nil, .nil⟩) memNil trivial rfl trivial (memCons (allFree_one rfl) memNil) rfl rfl rfl rfl rfl rfl ?_
 refine bnd1_elim h fun x4 q5 h => ?_
 have q5a := (idx_some q5).1; have q5b := (idx_some q5).2
 refine s_indexFZ rfl rfl rfl sl33 q5a (get_ltM q5b) rfl rfl rfl ?_
 refine s_loadF rfl rfl (rowG q5b) ty9 rfl (.inr rfl) (by conv => lhs; whnf) rfl rfl rfl ?_
 refine m2 ?_
 refine rt_nil ?_
 refine tri_ret ?_
 have e0 := (some2 h).1; have e1 := (some2 h).2; subst e0; subst e1
 exact endY [((1000, 0), ⟨136, 3, [[.lst 1 (List.map byteV x2.b), .sc (.int .i64 x2.i), .sc (.int .i64 x2.h)]], false, false⟩, some (1000, 0))] [] (rvC (resTmp rfl) rvN) ⟨⟨rfl, _, rfl, rfl, rfl, rfl, id, rowsCv_one (.cons (.free rfl) (.cons (.free rfl) (.cons (.free rfl) .nil))), rowsZ_one rfl⟩, trivial⟩ trivial rfl rfl (by kernel_rfl) rfl (.free rfl)

/- spec.l3Name -/

set_option maxRecDepth 4000 in
set_option maxHeartbeats 800000 in
theorem ws_l3Name (p0 : Cur) (r0 : ByteArray) (r1 : Cur) (h : s_l3Name p0 = some (r0, r1)) : Runs Tryd.prog 193 [.ptr (1000, 0) 0 0] [⟨136, 3, [[.lst 1 (List.map byteV p0.b), .sc (.int .i64 p0.i), .sc (.int .i64 p0.h)]], false, false⟩] (.sc (.string r0)) [⟨136, 3, [[.lst 1 (List.map byteV r1.b), .sc (.int .i64 r1.i), .sc (.int .i64 r1.h)]], false, false⟩] := by
 unfold s_l3Name at h
 refine runsR [.tmp 2] Tryd.func193 rfl rfl rfl rfl ?_
 rw [Tryd.ntmps193]
 refine tri_sr ?_
 refine s_mv (.inr rfl) (v := .sc (.string (⟨#[]⟩ : ByteArray))) rfl rfl rfl rfl ?_
 refine rt_nil ?_
 refine tri_sr ?_
 refine m1 ?_
 refine s_buildSlice (rows' := List.map strV [(⟨#[]⟩ : ByteArray), (⟨#[99, 111, 109]⟩ : ByteArray), (⟨#[101, 120, 46, 99, 111, 109]⟩ : ByteArray), (⟨#[119, 119, 119, 46, 101, 120, 46, 99, 111, 109]⟩ : ByteArray), (⟨#[110, 115, 46, 101, 120, 46, 99, 111, 109]⟩ : ByteArray), (⟨#[111, 114, 103]⟩ : ByteArray), (⟨#[97, 46, 111, 114, 103]⟩ : ByteArray), (⟨#[98, 46, 97, 46, 111, 114, 103]⟩ : ByteArray), (⟨#[110, 115, 49, 46, 111, 114, 103]⟩ : ByteArray), (⟨#[120, 46, 121, 46, 122, 46, 101, 120, 46, 99, 111, 109]⟩ : ByteArray)]) rfl rfl rfl sl33 zc9 rfl rfl rfl rfl rfl rfl rfl rfl rfl ?_
 refine bnd2_elim h fun x1 x2 q3 h => ?_
 refine s_callZ (kb := [(4, 0)]) (ns := [(1000, 0)]) (v := .sc (.string x1)) rfl rfl cl118 (ws_l1Str p0 ([(⟨#[]⟩ : ByteArray), (⟨#[99, 111, 109]⟩ : ByteArray), (⟨#[101, 120, 46, 99, 111, 109]⟩ : ByteArray), (⟨#[119, 119, 119, 46, 101, 120, 46, 99, 111, 109]⟩ : ByteArray), (⟨#[110, 115, 46, 101, 120, 46, 99, 111, 109]⟩ : ByteArray), (⟨#[111, 114, 103]⟩ : ByteArray), (⟨#[97, 46, 111, 114, 103]⟩ : ByteArray), (⟨#[98, 46, 97, 46, 111, 114, 103]⟩ : ByteArray), (⟨#[110, 115, 49, 46, 111, 114, 103]⟩ : ByteArray), (⟨#[120, 46, 121, 46, 122, 46, 101, 120, 46, 99, 111, 109]⟩ : ByteArray)]) x1 x2 q3) rfl (.cons (.ptrOwn rfl) (.cons (lendL rfl (.head _) rfl strV_free strV_len) .nil)) ⟨⟨_, rfl, rfl⟩, trivial⟩ (memCons (allFree_one rfl) memNil) (List.nodup_cons.2 ⟨List.not_mem_nil, .nil⟩) (by decide) ⟨⟨_, rfl, rfl⟩, trivial⟩ rfl trivial (memCons (allFree_one rfl) memNil) rfl rfl rfl rfl rfl rfl ?_
 refine m2 ?_
 refine rt_nil ?_
 refine tri_ret ?_
 have e0 := (some2 h).1; have e1 := (some2 h).2; subst e0; subst e1
 exact endY [((1000, 0), ⟨136, 3, [[.lst 1 (List.map byteV x2.b), .sc (.int .i64 x2.i), .sc (.int .i64 x2.h)]], false, false⟩, some (1000, 0))] [] (rvC (resTmp rfl) rvN) ⟨⟨rfl, _, rfl, rfl, rfl, rfl, id, rowsCv_one (.cons (.free rfl) (.cons (.free rfl) (.cons (.free rfl) .nil))), rowsZ_one rfl⟩, trivial⟩ trivial rfl rfl (by kernel_rfl) rfl (.free rfl)

/- spec.l1Int -/

set_option maxRecDepth 4000 in
set_option maxHeartbeats 800000 in
theorem ws_l1Int (p0 : Cur) (p1 : List Int) (r0 : Int) (r1 : Cur) (h : s_l1Int p0 p1 = some (r0, r1)) : Runs Tryd.prog 140 [.ptr (1000, 0) 0 0, .lst 1 (List.map intV p1)] [⟨136, 3, [[.lst 1 (List.map byteV p0.b), .sc (.int .i64 p0.i), .sc (.int .i64 p0.h)]], false, false⟩] (.sc (.int .i64 r0)) [⟨136, 3, [[.lst 1 (List.map byteV r1.b), .sc (.int .i64 r1.i), .sc (.int .i64 r1.h)]], false, false⟩] := by
 unfold s_l1Int at h
 refine runsR [.tmp 4] Tryd.func140 rfl rfl rfl rfl ?_
 rw [Tryd.ntmps140]
 refine tri_sr ?_
 refine s_mv (.inr rfl) (v := .sc (.int .i64 0)) rfl rfl rfl rfl ?_
 refine rt_nil ?_
 refine tri_sr ?_
 refine m1 ?_
 refine m1 ?_
 refine m1 ?_
 refine s_lenL rfl sl76 rfl rfl rfl rfl ?_
 refine bnd2_elim h fun x1 x2 q3 h => ?_
 refine s_callZ (kb := []) (ns := [(1000, 0)]) (v := .sc (.int .i64 x1)) rfl rfl cl116 (ws_l1Below p0 (p1.length : Int) x1 x2 q3) rfl (.cons (.ptrOwn rfl) (.cons (.free rfl) .nil)) ⟨⟨_, rfl, rfl⟩, trivial⟩ (memCons (allFree_one rfl) memNil) (List.nodup_cons.2 ⟨List.not_mem_nil, .nil⟩) memNil trivial rfl trivial (memCons (allFree_one rfl) memNil) rfl rfl rfl rfl rfl rfl ?_
 refine bnd1_elim h fun x4 q5 h => ?_
 have q5a := (idx_some q5).1; have q5b := (idx_some q5).2
 refine s_indexFZ rfl rfl rfl sl76 q5a (get_ltM q5b) rfl rfl rfl ?_
 refine s_loadF rfl rfl (rowG q5b) ty3 rfl (.inr rfl) (by conv => lhs; whnf) rfl rfl rfl ?_
 refine m2 ?_
 refine rt_nil ?_
 refine tri_ret ?_
 have e0 := (some2 h).1; have e1 := (some2 h).2; subst e0; subst e1
 exact endY [((1000, 0), ⟨136, 3, [[.lst 1 (List.map byteV x2.b), .sc (.int .i64 x2.i), .sc (.int .i64 x2.h)]], false, false⟩, some (1000, 0))] [] (rvC (resTmp rfl) rvN) ⟨⟨rfl, _, rfl, rfl, rfl, rfl, id, rowsCv_one (.cons (.free rfl) (.cons (.free rfl) (.cons (.free rfl) .nil))), rowsZ_one rfl⟩, trivial⟩ trivial rfl rfl (by kernel_rfl) rfl (.free rfl)

/- spec.l5Type -/

set_option maxRecDepth 4000 in
set_option maxHeartbeats 800000 in
theorem ws_l5Type (p0 : Cur) (r0 : Int) (r1 : Cur) (h : s_l5Type p0 = some (r0, r1)) : Runs Tryd.prog 91 [.ptr (1000, 0) 0 0] [⟨136, 3, [[.lst 1 (List.map byteV p0.b), .sc (.int .i64 p0.i), .sc (.int .i64 p0.h)]], false, false⟩] (.sc (.int .i64 r0)) [⟨136, 3, [[.lst 1 (List.map byteV r1.b), .sc (.int .i64 r1.i), .sc (.int .i64 r1.h)]], false, false⟩] := by
 unfold s_l5Type at h
 refine runsR [.tmp 2] Tryd.func91 rfl rfl rfl rfl ?_
 rw [Tryd.ntmps91]
 refine tri_sr ?_
 refine s_mv (.inr rfl) (v := .sc (.int .i64 0)) rfl rfl rfl rfl ?_
 refine rt_nil ?_
 refine tri_sr ?_
 refine m1 ?_
 refine s_buildSlice (rows' := List.map intV [1, 1, 1, 2, 2, 5, 6, 16]) rfl rfl rfl sl76 zc3 rfl rfl rfl rfl rfl rfl rfl rfl rfl ?_
 refine bnd2_elim h fun x1 x2 q3 h => ?_
 refine s_callZ (kb := [(4, 0)]) (ns := [(1000, 0)]) (v := .sc (.int .i64 x1)) rfl rfl cl140 (ws_l1Int p0 [1, 1, 1, 2, 2, 5, 6, 16] x1 x2 q3) rfl (.cons (.ptrOwn rfl) (.cons (lendL rfl (.head _) rfl intV_free intV_len) .nil)) ⟨⟨_, rfl, rfl⟩, trivial⟩ (memCons (allFree_one rfl) memNil) (List.nodup_cons.2 ⟨List.not_mem_nil, .nil⟩) (by decide) ⟨⟨_, rfl, rfl⟩, trivial⟩ rfl trivial (memCons (allFree_one rfl) memNil) rfl rfl rfl rfl rfl rfl ?_
 refine m2 ?_
 refine rt_nil ?_
 refine tri_ret ?_
 have e0 := (some2 h).1; have e1 := (some2 h).2; subst e0; subst e1
 exact endY [((1000, 0), ⟨136, 3, [[.lst 1 (List.map byteV x2.b), .sc (.int .i64 x2.i), .sc (.int .i64 x2.h)]], false, false⟩, some (1000, 0))] [] (rvC (resTmp rfl) rvN) ⟨⟨rfl, _, rfl, rfl, rfl, rfl, id, rowsCv_one (.cons (.free rfl) (.cons (.free rfl) (.cons (.free rfl) .nil))), rowsZ_one rfl⟩, trivial⟩ trivial rfl rfl (by kernel_rfl) rfl (.free rfl)

/- spec.l5Draw -/
def inv_s_l5Draw_0 (x1 : ByteArray) (x4 : Int) (x7 : Int) (x8 : Cur) (j0_0 : Bool) : St := mkT 42 [(0, .ptr (1000, 0) 0 0), (2, .ptr (2, 0) 0 0), (3, .ptr (3, 0) 0 0), (13, .sc (.int .i64 x4)), (20, .sc (.bool j0_0))] [((1000, 0), some ⟨136, 3, [[.lst 1 (List.map byteV x8.b), .sc (.int .i64 x8.i), .sc (.int .i64 x8.h)]], false, false⟩), ((2, 0), some ⟨39, 6, [[.sc (.string (⟨#[]⟩ : ByteArray)), .sc (.int .i64 0), .sc (.int .i64 0), .sc (.int .i64 0), .sc (.string (⟨#[]⟩ : ByteArray)), .sc (.string (⟨#[]⟩ : ByteArray))]], false, true⟩), ((3, 0), some ⟨39, 6, [[.sc (.string x1), .sc (.int .i64 x4), .sc (.int .i64 x7), .sc (.int .i64 0), .sc (.string (⟨#[]⟩ : ByteArray)), .sc (.string (⟨#[]⟩ : ByteArray))]], false, true⟩)]
set_option maxRecDepth 4000 in
set_option maxHeartbeats 800000 in
theorem ws_l5Draw (p0 : Cur) (r0 : Rec) (r1 : Cur) (h : s_l5Draw p0 = some (r0, r1)) : Runs Tryd.prog 164 [.ptr (1000, 0) 0 0] [⟨136, 3, [[.lst 1 (List.map byteV p0.b), .sc (.int .i64 p0.i), .sc (.int .i64 p0.h)]], false, false⟩] (.agg (recV r0)) [⟨136, 3, [[.lst 1 (List.map byteV r1.b), .sc (.int .i64 r1.i), .sc (.int .i64 r1.h)]], false, false⟩] := by
 unfold s_l5Draw at h
 refine runsR [.cell 2 39] Tryd.func164 rfl rfl rfl rfl ?_
 rw [Tryd.ntmps164]
 refine tri_sr ?_
 refine s_alloc rfl rfl rfl zc39 rfl rfl rfl rfl rfl ?_
 refine rt_nil ?_
 refine tri_sr ?_
 refine m1 ?_
 refine bnd2_elim h fun x1 x2 q3 h => ?_
 refine s_callZ (kb := []) (ns := [(1000, 0)]) (v := .sc (.string x1)) rfl rfl cl193 (ws_l3Name p0 x1 x2 q3) rfl (.cons (.ptrOwn rfl) .nil) ⟨⟨_, rfl, rfl⟩, trivial⟩ (memCons (allFree_one rfl) memNil) (List.nodup_cons.2 ⟨List.not_mem_nil, .nil⟩) memNil trivial rfl trivial (memCons (allFree_one rfl) memNil) rfl rfl rfl rfl rfl rfl ?_
 refine m1 ?_
 refine bnd2_elim h fun x4 x5 q6 h => ?_
 refine s_callZ (kb := []) (ns := [(1000, 0)]) (v := .sc (.int .i64 x4)) rfl rfl cl91 (ws_l5Type x2 x4 x5 q6) rfl (.cons (.ptrOwn rfl) .nil) ⟨⟨_, rfl, rfl⟩, trivial⟩ (memCons (allFree_one rfl) memNil) (List.nodup_cons.2 ⟨List.not_mem_nil, .nil⟩) memNil trivial rfl trivial (memCons (allFree_one rfl) memNil) rfl rfl rfl rfl rfl rfl ?_
 refine m1 ?_
 refine s_buildSlice (rows' := List.map intV [0, 1, 5, 60, 300, 100000]) rfl rfl rfl sl76 zc3 rfl rfl rfl rfl rfl rfl rfl rfl rfl ?_
 refine bnd2_elim h fun x7 x8 q9 h => ?_
 refine s_callZ (kb := [(9, 0)]) (ns := [(1000, 0)]) (v := .sc (.int .i64 x7)) rfl rfl cl140 (ws_l1Int x5 [0, 1, 5, 60, 300, 100000] x7 x8 q9) rfl (.cons (.ptrOwn rfl) (.cons (lendL rfl (.head _) rfl intV_free intV_len) .nil)) ⟨⟨_, rfl, rfl⟩, trivial⟩ (memCons (allFree_one rfl) memNil) (List.nodup_cons.2 ⟨List.not_mem_nil, .nil⟩) (by decide) ⟨⟨_, rfl, rfl⟩, trivial⟩ rfl trivial (memCons (allFree_one rfl) memNil) rfl rfl rfl rfl rfl rfl ?_
 refine s_build (cells' := [.sc (.string x1), .sc (.int .i64 x4), .sc (.int .i64 x7), .sc (.int .i64 0), .sc (.string (⟨#[]⟩ : ByteArray)), .sc (.string (⟨#[]⟩ : ByteArray))]) rfl stc39 rfl rfl rfl rfl rfl rfl rfl ?_
 refine s_alloc rfl rfl rfl zc39 rfl rfl rfl rfl rfl ?_
 refine s_storeB rfl rfl rfl ty39 rfl rfl rfl rfl rfl ?_
 refine rt_nil ?_
 refine tri_seq ?_
 refine tri_sr ?_
 refine s_fieldAddr rfl rfl fd39_1 rfl rfl rfl rfl ?_
 refine s_load rfl rfl rfl rfl ty3 rfl (.inr rfl) (by conv => lhs; whnf) rfl rfl rfl ?_
 refine rt_nil ?_
 refine tri_block ?_
 refine tri_sr ?_
 refine s_of (st_eqI rfl rfl rfl) rfl rfl rfl rfl ?_
 refine m2 ?_
 refine rt_nil ?_
 refine tri_cond rfl (fun c10 => ?_) (fun c10 => ?_)
 ·replace h := cond_t h c10
  refine tri_region ?_
  refine m1 ?_
  refine bnd2_elim h fun x11 x12 q13 h => ?_
  refine s_callZ (kb := []) (ns := [(1000, 0)]) (v := .sc (.int .i64 x11)) rfl rfl cl116 (ws_l1Below x8 9 x11 x12 q13) rfl (.cons (.ptrOwn rfl) (.cons (.free rfl) .nil)) ⟨⟨_, rfl, rfl⟩, trivial⟩ (memCons (allFree_one rfl) memNil) (List.nodup_cons.2 ⟨List.not_mem_nil, .nil⟩) memNil trivial rfl trivial (memCons (allFree_one rfl) memNil) rfl rfl rfl rfl rfl rfl ?_
  refine grd_elim h fun g14 h => ?_
  refine s_addI rfl rfl rfl rfl g14 rfl rfl rfl ?_
  refine s_fieldAddr rfl rfl fd39_3 rfl rfl rfl rfl ?_
  refine s_store (rows' := [[.sc (.string x1), .sc (.int .i64 x4), .sc (.int .i64 x7), .sc (.int .i64 (1 + x11)), .sc (.string (⟨#[]⟩ : ByteArray)), .sc (.string (⟨#[]⟩ : ByteArray))]]) rfl rfl rfl rfl ty3 rfl rfl rfl rfl rfl rfl ?_
  refine rt_nil ?_
  refine tri_sr ?_
  refine s_loadR rfl rfl rfl rfl ty39 rfl rfl rfl ?_
  refine s_storeB rfl rfl rfl ty39 rfl rfl rfl rfl rfl ?_
  refine rt_nil ?_
  refine tri_ret ?_
  have e0 := (some2 h).1; have e1 := (some2 h).2; subst e0; subst e1
  exact endY [((1000, 0), ⟨136, 3, [[.lst 1 (List.map byteV x12.b), .sc (.int .i64 x12.i), .sc (.int .i64 x12.h)]], false, false⟩, some (1000, 0))] [] (rvC (resCell rfl rfl ty39) rvN) ⟨⟨rfl, _, rfl, rfl, rfl, rfl, id, rowsCv_one (.cons (.free rfl) (.cons (.free rfl) (.cons (.free rfl) .nil))), rowsZ_one rfl⟩, trivial⟩ trivial rfl rfl (by kernel_rfl) rfl (cvAgg rfl)
 ·replace h := cond_f h c10
  refine tri_cutI (ι := { p : Bool // s_l5Draw_j0 x1 x4 x7 x8 p = some (r0, r1) }) (fun p => inv_s_l5Draw_0 x1 x4 x7 x8 p.1) ?_ ?_
  ·skip
   refine tri_sr ?_
   refine s_of (st_eqI rfl rfl rfl) rfl rfl rfl rfl ?_
   refine m2 ?_
   refine rt_nil ?_
   refine tri_cond rfl (fun c15 => ?_) (fun c15 => ?_)
   ·replace h := cond_t h c15
    refine tri_skip ?_
    refine Exists.intro ⟨decide (x4 = 2), h⟩ ?_
    refine entX [((1000, 0), ⟨136, 3, [[.lst 1 (List.map byteV x8.b), .sc (.int .i64 x8.i), .sc (.int .i64 x8.h)]], false, false⟩, some (1000, 0)), ((2, 0), ⟨39, 6, [[.sc (.string (⟨#[]⟩ : ByteArray)), .sc (.int .i64 0), .sc (.int .i64 0), .sc (.int .i64 0), .sc (.string (⟨#[]⟩ : ByteArray)), .sc (.string (⟨#[]⟩ : ByteArray))]], false, true⟩, some (2, 0)), ((3, 0), ⟨39, 6, [[.sc (.string x1), .sc (.int .i64 x4), .sc (.int .i64 x7), .sc (.int .i64 0), .sc (.string (⟨#[]⟩ : ByteArray)), .sc (.string (⟨#[]⟩ : ByteArray))]], false, true⟩, some (3, 0))] [] ⟨⟨rfl, _, rfl, rfl, rfl, rfl, id, rowsCv_one (.cons (.free rfl) (.cons (.free rfl) (.cons (.free rfl) .nil))), rowsZ_one rfl⟩, ⟨rfl, _, rfl, rfl, rfl, rfl, id, rowsCv_one (.cons (.free rfl) (.cons (.free rfl) (.cons (.free rfl) (.cons (.free rfl) (.cons (.free rfl) (.cons (.free rfl) .nil)))))), rowsZ_one rfl⟩, ⟨rfl, _, rfl, rfl, rfl, rfl, id, rowsCv_one (.cons (.free rfl) (.cons (.free rfl) (.cons (.free rfl) (.cons (.free rfl) (.cons (.free rfl) (.cons (.free rfl) .nil)))))), rowsZ_one rfl⟩, trivial⟩ trivial rfl rfl ?_
    exact ⟨(.ptr rfl), (.ptr rfl), (.ptr rfl), (.free rfl), (.free rfl), trivial⟩
   ·replace h := cond_f h c15
    refine tri_region ?_
    refine s_of (st_eqI rfl rfl rfl) rfl rfl rfl rfl ?_
    refine m2 ?_
    refine rt_nil ?_
    refine Exists.intro ⟨decide (x4 = 5), h⟩ ?_
    refine entX [((1000, 0), ⟨136, 3, [[.lst 1 (List.map byteV x8.b), .sc (.int .i64 x8.i), .sc (.int .i64 x8.h)]], false, false⟩, some (1000, 0)), ((2, 0), ⟨39, 6, [[.sc (.string (⟨#[]⟩ : ByteArray)), .sc (.int .i64 0), .sc (.int .i64 0), .sc (.int .i64 0), .sc (.string (⟨#[]⟩ : ByteArray)), .sc (.string (⟨#[]⟩ : ByteArray))]], false, true⟩, some (2, 0)), ((3, 0), ⟨39, 6, [[.sc (.string x1), .sc (.int .i64 x4), .sc (.int .i64 x7), .sc (.int .i64 0), .sc (.string (⟨#[]⟩ : ByteArray)), .sc (.string (⟨#[]⟩ : ByteArray))]], false, true⟩, some (3, 0))] [] ⟨⟨rfl, _, rfl, rfl, rfl, rfl, id, rowsCv_one (.cons (.free rfl) (.cons (.free rfl) (.cons (.free rfl) .nil))), rowsZ_one rfl⟩, ⟨rfl, _, rfl, rfl, rfl, rfl, id, rowsCv_one (.cons (.free rfl) (.cons (.free rfl) (.cons (.free rfl) (.cons (.free rfl) (.cons (.free rfl) (.cons (.free rfl) .nil)))))), rowsZ_one rfl⟩, ⟨rfl, _, rfl, rfl, rfl, rfl, id, rowsCv_one (.cons (.free rfl) (.cons (.free rfl) (.cons (.free rfl) (.cons (.free rfl) (.cons (.free rfl) (.cons (.free rfl) .nil)))))), rowsZ_one rfl⟩, trivial⟩ trivial rfl rfl ?_
    exact ⟨(.ptr rfl), (.ptr rfl), (.ptr rfl), (.free rfl), (.free rfl), trivial⟩
  ·rintro ⟨j0_0, h⟩
   replace h : s_l5Draw_j0 x1 x4 x7 x8 j0_0 = some (r0, r1) := h
   unfold s_l5Draw_j0 at h
   show Tri _ _ _ (inv_s_l5Draw_0 x1 x4 x7 x8 j0_0)
   refine tri_cond rfl (fun c15 => ?_) (fun c15 => ?_)
   ·replace h := cond_t h c15
    refine tri_region ?_
    refine m1 ?_
    refine bnd2_elim h fun x16 x17 q18 h => ?_
    refine s_callZ (kb := []) (ns := [(1000, 0)]) (v := .sc (.string x16)) rfl rfl cl193 (ws_l3Name x8 x16 x17 q18) rfl (.cons (.ptrOwn rfl) .nil) ⟨⟨_, rfl, rfl⟩, trivial⟩ (memCons (allFree_one rfl) memNil) (List.nodup_cons.2 ⟨List.not_mem_nil, .nil⟩) memNil trivial rfl trivial (memCons (allFree_one rfl) memNil) rfl rfl rfl rfl rfl rfl ?_
    refine s_fieldAddr rfl rfl fd39_4 rfl rfl rfl rfl ?_
    refine s_store (rows' := [[.sc (.string x1), .sc (.int .i64 x4), .sc (.int .i64 x7), .sc (.int .i64 0), .sc (.string x16), .sc (.string (⟨#[]⟩ : ByteArray))]]) rfl rfl rfl rfl ty9 rfl rfl rfl rfl rfl rfl ?_
    refine rt_nil ?_
    refine tri_sr ?_
    refine s_loadR rfl rfl rfl rfl ty39 rfl rfl rfl ?_
    refine s_storeB rfl rfl rfl ty39 rfl rfl rfl rfl rfl ?_
    refine rt_nil ?_
    refine tri_ret ?_
    have e0 := (some2 h).1; have e1 := (some2 h).2; subst e0; subst e1
    exact endY [((1000, 0), ⟨136, 3, [[.lst 1 (List.map byteV x17.b), .sc (.int .i64 x17.i), .sc (.int .i64 x17.h)]], false, false⟩, some (1000, 0))] [] (rvC (resCell rfl rfl ty39) rvN) ⟨⟨rfl, _, rfl, rfl, rfl, rfl, id, rowsCv_one (.cons (.free rfl) (.cons (.free rfl) (.cons (.free rfl) .nil))), rowsZ_one rfl⟩, trivial⟩ trivial rfl rfl (by kernel_rfl) rfl (cvAgg rfl)
   ·replace h := cond_f h c15
    refine tri_sr ?_
    refine s_of (st_eqI rfl rfl rfl) rfl rfl rfl rfl ?_
    refine m2 ?_
    refine rt_nil ?_
    refine tri_cond rfl (fun c19 => ?_) (fun c19 => ?_)
    ·replace h := cond_t h c19
     refine tri_sr ?_
     refine m1 ?_
     refine bnd2_elim h fun x20 x21 q22 h => ?_
     refine s_callZ (kb := []) (ns := [(1000, 0)]) (v := .sc (.string x20)) rfl rfl cl193 (ws_l3Name x8 x20 x21 q22) rfl (.cons (.ptrOwn rfl) .nil) ⟨⟨_, rfl, rfl⟩, trivial⟩ (memCons (allFree_one rfl) memNil) (List.nodup_cons.2 ⟨List.not_mem_nil, .nil⟩) memNil trivial rfl trivial (memCons (allFree_one rfl) memNil) rfl rfl rfl rfl rfl rfl ?_
     refine s_fieldAddr rfl rfl fd39_4 rfl rfl rfl rfl ?_
     refine s_store (rows' := [[.sc (.string x1), .sc (.int .i64 x4), .sc (.int .i64 x7), .sc (.int .i64 0), .sc (.string x20), .sc (.string (⟨#[]⟩ : ByteArray))]]) rfl rfl rfl rfl ty9 rfl rfl rfl rfl rfl rfl ?_
     refine rt_nil ?_
     refine tri_region ?_
     refine m1 ?_
     refine s_buildSlice (rows' := List.map intV [0, 5, 60]) rfl rfl rfl sl76 zc3 rfl rfl rfl rfl rfl rfl rfl rfl rfl ?_
     refine bnd2_elim h fun x23 x24 q25 h => ?_
     refine s_callZ (kb := [(32, 0)]) (ns := [(1000, 0)]) (v := .sc (.int .i64 x23)) rfl rfl cl140 (ws_l1Int x21 [0, 5, 60] x23 x24 q25) rfl (.cons (.ptrOwn rfl) (.cons (lendL rfl (.head _) rfl intV_free intV_len) .nil)) ⟨⟨_, rfl, rfl⟩, trivial⟩ (memCons (allFree_one rfl) memNil) (List.nodup_cons.2 ⟨List.not_mem_nil, .nil⟩) (by decide) ⟨⟨_, rfl, rfl⟩, trivial⟩ rfl trivial (memCons (allFree_one rfl) memNil) rfl rfl rfl rfl rfl rfl ?_
     refine s_fieldAddr rfl rfl fd39_3 rfl rfl rfl rfl ?_
     refine s_store (rows' := [[.sc (.string x1), .sc (.int .i64 x4), .sc (.int .i64 x7), .sc (.int .i64 x23), .sc (.string x20), .sc (.string (⟨#[]⟩ : ByteArray))]]) rfl rfl rfl rfl ty3 rfl rfl rfl rfl rfl rfl ?_
     refine rt_nil ?_
     refine tri_sr ?_
     refine s_loadR rfl rfl rfl rfl ty39 rfl rfl rfl ?_
     refine s_storeB rfl rfl rfl ty39 rfl rfl rfl rfl rfl ?_
     refine rt_nil ?_
     refine tri_ret ?_
     have e0 := (some2 h).1; have e1 := (some2 h).2; subst e0; subst e1
     exact endY [((1000, 0), ⟨136, 3, [[.lst 1 (List.map byteV x24.b), .sc (.int .i64 x24.i), .sc (.int .i64 x24.h)]], false, false⟩, some (1000, 0))] [] (rvC (resCell rfl rfl ty39) rvN) ⟨⟨rfl, _, rfl, rfl, rfl, rfl, id, rowsCv_one (.cons (.free rfl) (.cons (.free rfl) (.cons (.free rfl) .nil))), rowsZ_one rfl⟩, trivial⟩ trivial rfl rfl (by kernel_rfl) rfl (cvAgg rfl)
    ·replace h := cond_f h c19
     refine tri_sr ?_
     refine s_of (st_eqI rfl rfl rfl) rfl rfl rfl rfl ?_
     refine m2 ?_
     refine rt_nil ?_
     refine tri_cond rfl (fun c26 => ?_) (fun c26 => ?_)
     ·replace h := cond_t h c26
      refine tri_region ?_
      refine m1 ?_
      refine s_buildSlice (rows' := List.map strV [(⟨#[]⟩ : ByteArray), (⟨#[104, 105]⟩ : ByteArray), (⟨#[116, 119, 101, 108, 118, 101, 98, 121, 116, 101, 115, 33]⟩ : ByteArray)]) rfl rfl rfl sl33 zc9 rfl rfl rfl rfl rfl rfl rfl rfl rfl ?_
      refine bnd2_elim h fun x27 x28 q29 h => ?_
      refine s_callZ (kb := [(38, 0)]) (ns := [(1000, 0)]) (v := .sc (.string x27)) rfl rfl cl118 (ws_l1Str x8 ([(⟨#[]⟩ : ByteArray), (⟨#[104, 105]⟩ : ByteArray), (⟨#[116, 119, 101, 108, 118, 101, 98, 121, 116, 101, 115, 33]⟩ : ByteArray)]) x27 x28 q29) rfl (.cons (.ptrOwn rfl) (.cons (lendL rfl (.head _) rfl strV_free strV_len) .nil)) ⟨⟨_, rfl, rfl⟩, trivial⟩ (memCons (allFree_one rfl) memNil) (List.nodup_cons.2 ⟨List.not_mem_nil, .nil⟩) (by decide) ⟨⟨_, rfl, rfl⟩, trivial⟩ rfl trivial (memCons (allFree_one rfl) memNil) rfl rfl rfl rfl rfl rfl ?_
      refine s_fieldAddr rfl rfl fd39_5 rfl rfl rfl rfl ?_
      refine s_store (rows' := [[.sc (.string x1), .sc (.int .i64 x4), .sc (.int .i64 x7), .sc (.int .i64 0), .sc (.string (⟨#[]⟩ : ByteArray)), .sc (.string x27)]]) rfl rfl rfl rfl ty9 rfl rfl rfl rfl rfl rfl ?_
      refine rt_nil ?_
      refine tri_sr ?_
      refine s_loadR rfl rfl rfl rfl ty39 rfl rfl rfl ?_
      refine s_storeB rfl rfl rfl ty39 rfl rfl rfl rfl rfl ?_
      refine rt_nil ?_
      refine tri_ret ?_
      have e0 := (some2 h).1; have e1 := (some2 h).2; subst e0; subst e1
      exact endY [((1000, 0), ⟨136, 3, [[.lst 1 (List.map byteV x28.b), .sc (.int .i64 x28.i), .sc (.int .i64 x28.h)]], false, false⟩, some (1000, 0))] [] (rvC (resCell rfl rfl ty39) rvN) ⟨⟨rfl, _, rfl, rfl, rfl, rfl, id, rowsCv_one (.cons (.free rfl) (.cons (.free rfl) (.cons (.free rfl) .nil))), rowsZ_one rfl⟩, trivial⟩ trivial rfl rfl (by kernel_rfl) rfl (cvAgg rfl)
     ·replace h := cond_f h c26
      refine tri_skip ?_
      refine tri_sr ?_
      refine s_loadR rfl rfl rfl rfl ty39 rfl rfl rfl ?_
      refine s_storeB rfl rfl rfl ty39 rfl rfl rfl rfl rfl ?_
      refine rt_nil ?_
      refine tri_ret ?_
      have e0 := (some2 h).1; have e1 := (some2 h).2; subst e0; subst e1
      exact endY [((1000, 0), ⟨136, 3, [[.lst 1 (List.map byteV x8.b), .sc (.int .i64 x8.i), .sc (.int .i64 x8.h)]], false, false⟩, some (1000, 0))] [] (rvC (resCell rfl rfl ty39) rvN) ⟨⟨rfl, _, rfl, rfl, rfl, rfl, id, rowsCv_one (.cons (.free rfl) (.cons (.free rfl) (.cons (.free rfl) .nil))), rowsZ_one rfl⟩, trivial⟩ trivial rfl rfl (by kernel_rfl) rfl (cvAgg rfl)

/- spec.l1Once -/

set_option maxRecDepth 4000 in
set_option maxHeartbeats 800000 in
theorem ws_l1Once (p0 : Cur) (p1 : Int) (r0 : Bool) (r1 : Cur) (h : s_l1Once p0 p1 = some (r0, r1)) : Runs Tryd.prog 113 [.ptr (1000, 0) 0 0, .sc (.int .i64 p1)] [⟨136, 3, [[.lst 1 (List.map byteV p0.b), .sc (.int .i64 p0.i), .sc (.int .i64 p0.h)]], false, false⟩] (.sc (.bool r0)) [⟨136, 3, [[.lst 1 (List.map byteV r1.b), .sc (.int .i64 r1.i), .sc (.int .i64 r1.h)]], false, false⟩] := by
 unfold s_l1Once at h
 refine runsR [.tmp 4] Tryd.func113 rfl rfl rfl rfl ?_
 rw [Tryd.ntmps113]
 refine tri_sr ?_
 refine s_mv (.inr rfl) (v := .sc (.bool false)) rfl rfl rfl rfl ?_
 refine rt_nil ?_
 refine tri_sr ?_
 refine m1 ?_
 refine m1 ?_
 refine bnd2_elim h fun x1 x2 q3 h => ?_
 refine s_callZ (kb := []) (ns := [(1000, 0)]) (v := .sc (.int .i64 x1)) rfl rfl cl116 (ws_l1Below p0 p1 x1 x2 q3) rfl (.cons (.ptrOwn rfl) (.cons (.free rfl) .nil)) ⟨⟨_, rfl, rfl⟩, trivial⟩ (memCons (allFree_one rfl) memNil) (List.nodup_cons.2 ⟨List.not_mem_nil, .nil⟩) memNil trivial rfl trivial (memCons (allFree_one rfl) memNil) rfl rfl rfl rfl rfl rfl ?_
 refine s_of (st_eqI rfl rfl rfl) rfl rfl rfl rfl ?_
 refine m2 ?_
 refine rt_nil ?_
 refine tri_ret ?_
 have e0 := (some2 h).1; have e1 := (some2 h).2; subst e0; subst e1
 exact endY [((1000, 0), ⟨136, 3, [[.lst 1 (List.map byteV x2.b), .sc (.int .i64 x2.i), .sc (.int .i64 x2.h)]], false, false⟩, some (1000, 0))] [] (rvC (resTmp rfl) rvN) ⟨⟨rfl, _, rfl, rfl, rfl, rfl, id, rowsCv_one (.cons (.free rfl) (.cons (.free rfl) (.cons (.free rfl) .nil))), rowsZ_one rfl⟩, trivial⟩ trivial rfl rfl (by kernel_rfl) rfl (.free rfl)

/- spec.l9Near -/
def inv_s_l9Near_1 (v0_3 : List Rec) (v0_4 : Int) (x5 : Rec) (x8 : ByteArray) (j1_0 : List Int) (j1_1 : Int) (j1_2 : Int) (j1_3 : Int) (j1_4 : Int) (j1_5 : ByteArray) (j1_6 : ByteArray) : St := mkT 33 [(0, .ptr (1000, 0) 0 0), (3, .ref (2003, 0) 0 v0_3.length), (4, .sc (.int .i64 v0_4)), (5, .ptr (5, 0) 0 0)] [((1000, 0), some ⟨136, 3, [[.lst 1 (List.map byteV j1_0), .sc (.int .i64 j1_1), .sc (.int .i64 j1_2)]], false, false⟩), ((2003, 0), some ⟨39, 6, List.map recV v0_3, false, true⟩), ((5, 0), some ⟨39, 6, [[.sc (.string x8), .sc (.int .i64 j1_3), .sc (.int .i64 x5.ttl), .sc (.int .i64 j1_4), .sc (.string j1_5), .sc (.string j1_6)]], false, true⟩)]
def inv_s_l9Near_0  (v0_0 : List Int) (v0_1 : Int) (v0_2 : Int) (v0_3 : List Rec) (v0_4 : Int) : St := mkT 33 [(0, .ptr (1000, 0) 0 0), (3, .ref (2003, 0) 0 v0_3.length), (4, .sc (.int .i64 v0_4))] [((1000, 0), some ⟨136, 3, [[.lst 1 (List.map byteV v0_0), .sc (.int .i64 v0_1), .sc (.int .i64 v0_2)]], false, false⟩), ((2003, 0), some ⟨39, 6, List.map recV v0_3, false, true⟩)]
set_option maxRecDepth 4000 in
set_option maxHeartbeats 800000 in
theorem ws_l9Near (p0 : Cur) (r0 : List Rec) (r1 : Cur) (h : s_l9Near p0 = some (r0, r1)) : Runs Tryd.prog 112 [.ptr (1000, 0) 0 0] [⟨136, 3, [[.lst 1 (List.map byteV p0.b), .sc (.int .i64 p0.i), .sc (.int .i64 p0.h)]], false, false⟩] (.own 39 6 (List.map recV r0)) [⟨136, 3, [[.lst 1 (List.map byteV r1.b), .sc (.int .i64 r1.i), .sc (.int .i64 r1.h)]], false, false⟩] := by
 unfold s_l9Near at h
 refine runsR [.tmp 2] Tryd.func112 rfl rfl rfl rfl ?_
 rw [Tryd.ntmps112]
 refine tri_sr ?_
 refine s_mv (.inr rfl) (v := .nils) rfl rfl rfl rfl ?_
 refine rt_nil ?_
 refine tri_sr ?_
 refine s_buildSlice (rows' := List.map recV ([] : List Rec)) rfl rfl rfl sl24 zc39 rfl rfl rfl rfl rfl rfl rfl rfl rfl ?_
 refine m2 ?_
 refine rt_nil ?_
 refine tri_seq ?_
 refine tri_sr ?_
 refine m1 ?_
 refine bnd2_elim h fun x1 x2 q3 h => ?_
 refine s_callZ (kb := []) (ns := [(1000, 0)]) (v := .sc (.int .i64 x1)) rfl rfl cl116 (ws_l1Below p0 6 x1 x2 q3) rfl (.cons (.ptrOwn rfl) (.cons (.free rfl) .nil)) ⟨⟨_, rfl, rfl⟩, trivial⟩ (memCons (allFree_one rfl) memNil) (List.nodup_cons.2 ⟨List.not_mem_nil, .nil⟩) memNil trivial rfl trivial (memCons (allFree_one rfl) memNil) rfl rfl rfl rfl rfl rfl ?_
 refine m2 ?_
 refine rt_nil ?_
 refine tri_block ?_
 refine tri_loop (ι := { p : Nat × (List Int) × Int × Int × (List Rec) × Int // s_l9Near_l0 p.1 p.2.1 p.2.2.1 p.2.2.2.1 p.2.2.2.2.1 p.2.2.2.2.2 = some (r0, r1) }) (fun p => inv_s_l9Near_0 p.1.2.1 p.1.2.2.1 p.1.2.2.2.1 p.1.2.2.2.2.1 p.1.2.2.2.2.2) (fun p => p.1.1) ⟨(fuel0, x2.b, x2.i, x2.h, ([] : List Rec), x1), h⟩ ?_ ?_
 ·skip
  refine entX [((1000, 0), ⟨136, 3, [[.lst 1 (List.map byteV x2.b), .sc (.int .i64 x2.i), .sc (.int .i64 x2.h)]], false, false⟩, some (1000, 0)), ((2003, 0), ⟨39, 6, List.map recV ([] : List Rec), false, true⟩, some (6, 0))] [] ⟨⟨rfl, _, rfl, rfl, rfl, rfl, id, rowsCv_one (.cons (.free rfl) (.cons (.free rfl) (.cons (.free rfl) .nil))), rowsZ_one rfl⟩, ⟨rfl, _, rfl, rfl, rfl, rfl, id, rowsCv_eq rfl (allFree_map recV_free), rowsZ_map recV_len⟩, trivial⟩ trivial rfl rfl ?_
  exact ⟨(.ptr rfl), (.ref rfl), (.free rfl), trivial⟩
 ·rintro ⟨⟨f0, v0_0, v0_1, v0_2, v0_3, v0_4⟩, h⟩
  replace h : s_l9Near_l0 f0 v0_0 v0_1 v0_2 v0_3 v0_4 = some (r0, r1) := h
  cases f0 with
  | zero => cases h
  | succ f0 =>
  rw [s_l9Near_l0] at h
  show Tri _ _ _ (inv_s_l9Near_0 v0_0 v0_1 v0_2 v0_3 v0_4)
  refine tri_seq ?_
  refine tri_sr ?_
  refine m1 ?_
  refine s_of (st_gtr rfl rfl rfl) rfl rfl rfl rfl ?_
  refine rt_nil ?_
  refine tri_cond rfl (fun c4 => ?_) (fun c4 => ?_)
  ·replace h := cond_t h c4
   refine tri_skip ?_
   refine tri_seq ?_
   refine tri_block ?_
   refine tri_sr ?_
   refine m1 ?_
   refine bnd2_elim h fun x5 x6 q7 h => ?_
   refine s_callZ (kb := []) (ns := [(1000, 0)]) (v := .agg (recV x5)) rfl rfl cl164 (ws_l5Draw (Cur.mk v0_0 v0_1 v0_2) x5 x6 q7) rfl (.cons (.ptrOwn rfl) .nil) ⟨⟨_, rfl, rfl⟩, trivial⟩ (memCons (allFree_one rfl) memNil) (List.nodup_cons.2 ⟨List.not_mem_nil, .nil⟩) memNil trivial rfl trivial (memCons (allFree_one rfl) memNil) rfl rfl rfl rfl rfl rfl ?_
   refine s_alloc rfl rfl rfl zc39 rfl rfl rfl rfl rfl ?_
   refine s_storeB rfl rfl rfl ty39 rfl rfl rfl rfl rfl ?_
   refine rt_nil ?_
   refine tri_sr ?_
   refine m1 ?_
   refine s_buildSlice (rows' := List.map strV [(⟨#[101, 120, 46, 99, 111, 109]⟩ : ByteArray), (⟨#[110, 115, 46, 101, 120, 46, 99, 111, 109]⟩ : ByteArray)]) rfl rfl rfl sl33 zc9 rfl rfl rfl rfl rfl rfl rfl rfl rfl ?_
   refine bnd2_elim h fun x8 x9 q10 h => ?_
   refine s_callZ (kb := [(16, 0)]) (ns := [(1000, 0)]) (v := .sc (.string x8)) rfl rfl cl118 (ws_l1Str x6 ([(⟨#[101, 120, 46, 99, 111, 109]⟩ : ByteArray), (⟨#[110, 115, 46, 101, 120, 46, 99, 111, 109]⟩ : ByteArray)]) x8 x9 q10) rfl (.cons (.ptrOwn rfl) (.cons (lendL rfl (.head _) rfl strV_free strV_len) .nil)) ⟨⟨_, rfl, rfl⟩, trivial⟩ (memCons (allFree_one rfl) memNil) (List.nodup_cons.2 ⟨List.not_mem_nil, .nil⟩) (by decide) ⟨⟨_, rfl, rfl⟩, trivial⟩ rfl trivial (memCons (allFree_one rfl) memNil) rfl rfl rfl rfl rfl rfl ?_
   refine s_fieldAddr rfl rfl fd39_0 rfl rfl rfl rfl ?_
   refine s_store (rows' := [[.sc (.string x8), .sc (.int .i64 x5.ty), .sc (.int .i64 x5.ttl), .sc (.int .i64 x5.n), .sc (.string x5.host), .sc (.string x5.text)]]) rfl rfl rfl rfl ty9 rfl rfl rfl rfl rfl rfl ?_
   refine rt_nil ?_
   refine tri_cutI (ι := { p : (List Int) × Int × Int × Int × Int × ByteArray × ByteArray // s_l9Near_j1 v0_3 v0_4 x5 x8 (s_l9Near_l0 f0) p.1 p.2.1 p.2.2.1 p.2.2.2.1 p.2.2.2.2.1 p.2.2.2.2.2.1 p.2.2.2.2.2.2 = some (r0, r1) }) (fun p => inv_s_l9Near_1 v0_3 v0_4 x5 x8 p.1.1 p.1.2.1 p.1.2.2.1 p.1.2.2.2.1 p.1.2.2.2.2.1 p.1.2.2.2.2.2.1 p.1.2.2.2.2.2.2) ?_ ?_
   ·skip
    refine tri_sr ?_
    refine m1 ?_
    refine bnd2_elim h fun x11 x12 q13 h => ?_
    refine s_callZ (kb := []) (ns := [(1000, 0)]) (v := .sc (.bool x11)) rfl rfl cl113 (ws_l1Once x9 2 x11 x12 q13) rfl (.cons (.ptrOwn rfl) (.cons (.free rfl) .nil)) ⟨⟨_, rfl, rfl⟩, trivial⟩ (memCons (allFree_one rfl) memNil) (List.nodup_cons.2 ⟨List.not_mem_nil, .nil⟩) memNil trivial rfl trivial (memCons (allFree_one rfl) memNil) rfl rfl rfl rfl rfl rfl ?_
    refine rt_nil ?_
    refine tri_cond rfl (fun c14 => ?_) (fun c14 => ?_)
    ·replace h := cond_t h c14
     refine tri_draw mixed ?_
     refine s_fieldAddr rfl rfl fd39_0 rfl rfl rfl rfl ?_
     refine s_load rfl rfl rfl rfl ty9 rfl (.inr rfl) (by conv => lhs; whnf) rfl rfl rfl ?_
     refine s_fieldAddr rfl rfl fd39_2 rfl rfl rfl rfl ?_
     refine s_load rfl rfl rfl rfl ty3 rfl (.inr rfl) (by conv => lhs; whnf) rfl rfl rfl ?_
     refine m1 ?_
     refine bnd2_elim h fun x15 x16 q17 h => ?_
     refine s_callZ (kb := []) (ns := [(1000, 0)]) (v := .sc (.int .i64 x15)) rfl rfl cl116 (ws_l1Below x12 3 x15 x16 q17) rfl (.cons (.ptrOwn rfl) (.cons (.free rfl) .nil)) ⟨⟨_, rfl, rfl⟩, trivial⟩ (memCons (allFree_one rfl) memNil) (List.nodup_cons.2 ⟨List.not_mem_nil, .nil⟩) memNil trivial rfl trivial (memCons (allFree_one rfl) memNil) rfl rfl rfl rfl rfl rfl ?_
     refine s_build (cells' := [.sc (.string x8), .sc (.int .i64 1), .sc (.int .i64 x5.ttl), .sc (.int .i64 x15), .sc (.string (⟨#[]⟩ : ByteArray)), .sc (.string (⟨#[]⟩ : ByteArray))]) rfl stc39 rfl rfl rfl rfl rfl rfl rfl ?_
     refine s_storeB rfl rfl rfl ty39 rfl rfl rfl rfl rfl ?_
     refine rt_nil ⟨by kernel_rfl, ?_⟩
     refine Exists.intro ⟨(x16.b, x16.i, x16.h, 1, x15, (⟨#[]⟩ : ByteArray), (⟨#[]⟩ : ByteArray)), h⟩ ?_
     refine entX [((1000, 0), ⟨136, 3, [[.lst 1 (List.map byteV x16.b), .sc (.int .i64 x16.i), .sc (.int .i64 x16.h)]], false, false⟩, some (1000, 0)), ((2003, 0), ⟨39, 6, List.map recV v0_3, false, true⟩, some (2003, 0)), ((5, 0), ⟨39, 6, [[.sc (.string x8), .sc (.int .i64 1), .sc (.int .i64 x5.ttl), .sc (.int .i64 x15), .sc (.string (⟨#[]⟩ : ByteArray)), .sc (.string (⟨#[]⟩ : ByteArray))]], false, true⟩, some (5, 0))] [] ⟨⟨rfl, _, rfl, rfl, rfl, rfl, id, rowsCv_one (.cons (.free rfl) (.cons (.free rfl) (.cons (.free rfl) .nil))), rowsZ_one rfl⟩, ⟨rfl, _, rfl, rfl, rfl, rfl, id, rowsCv_eq rfl (allFree_map recV_free), rowsZ_map recV_len⟩, ⟨rfl, _, rfl, rfl, rfl, rfl, id, rowsCv_one (.cons (.free rfl) (.cons (.free rfl) (.cons (.free rfl) (.cons (.free rfl) (.cons (.free rfl) (.cons (.free rfl) .nil)))))), rowsZ_one rfl⟩, trivial⟩ trivial rfl rfl ?_
     exact ⟨(.ptr rfl), (.ref rfl), (.free rfl), (.ptr rfl), trivial⟩
    ·replace h := cond_f h c14
     refine tri_skip ?_
     refine Exists.intro ⟨(x12.b, x12.i, x12.h, x5.ty, x5.n, x5.host, x5.text), h⟩ ?_
     refine entX [((1000, 0), ⟨136, 3, [[.lst 1 (List.map byteV x12.b), .sc (.int .i64 x12.i), .sc (.int .i64 x12.h)]], false, false⟩, some (1000, 0)), ((2003, 0), ⟨39, 6, List.map recV v0_3, false, true⟩, some (2003, 0)), ((5, 0), ⟨39, 6, [[.sc (.string x8), .sc (.int .i64 x5.ty), .sc (.int .i64 x5.ttl), .sc (.int .i64 x5.n), .sc (.string x5.host), .sc (.string x5.text)]], false, true⟩, some (5, 0))] [] ⟨⟨rfl, _, rfl, rfl, rfl, rfl, id, rowsCv_one (.cons (.free rfl) (.cons (.free rfl) (.cons (.free rfl) .nil))), rowsZ_one rfl⟩, ⟨rfl, _, rfl, rfl, rfl, rfl, id, rowsCv_eq rfl (allFree_map recV_free), rowsZ_map recV_len⟩, ⟨rfl, _, rfl, rfl, rfl, rfl, id, rowsCv_one (.cons (.free rfl) (.cons (.free rfl) (.cons (.free rfl) (.cons (.free rfl) (.cons (.free rfl) (.cons (.free rfl) .nil)))))), rowsZ_one rfl⟩, trivial⟩ trivial rfl rfl ?_
     exact ⟨(.ptr rfl), (.ref rfl), (.free rfl), (.ptr rfl), trivial⟩
   ·rintro ⟨⟨j1_0, j1_1, j1_2, j1_3, j1_4, j1_5, j1_6⟩, h⟩
    replace h : s_l9Near_j1 v0_3 v0_4 x5 x8 (s_l9Near_l0 f0) j1_0 j1_1 j1_2 j1_3 j1_4 j1_5 j1_6 = some (r0, r1) := h
    unfold s_l9Near_j1 at h
    show Tri _ _ _ (inv_s_l9Near_1 v0_3 v0_4 x5 x8 j1_0 j1_1 j1_2 j1_3 j1_4 j1_5 j1_6)
    refine tri_region ?_
    refine m1 ?_
    refine s_loadR rfl rfl rfl rfl ty39 rfl rfl rfl ?_
    refine s_buildSlice (rows' := List.map recV [Rec.mk x8 j1_3 x5.ttl j1_4 j1_5 j1_6]) rfl rfl rfl sl24 zc39 rfl rfl rfl rfl rfl rfl rfl rfl rfl ?_
    refine grd_elim h fun g11 h => ?_
    refine s_appL rfl rfl rfl sl24 zc39 rfl rfl rfl rfl rfl rfl (src_refL rfl rfl) g11 rfl rfl ?_
    refine m2 ?_
    refine rt_nil ?_
    refine tri_region ?_
    refine m1 ?_
    refine grd_elim h fun g12 h => ?_
    refine s_subI rfl rfl rfl rfl g12 rfl rfl rfl ?_
    refine m2 ?_
    refine rt_nil ?_
    refine Exists.intro ⟨(f0, j1_0, j1_1, j1_2, v0_3 ++ [Rec.mk x8 j1_3 x5.ttl j1_4 j1_5 j1_6], v0_4 - 1), h⟩ (And.intro (Nat.lt_succ_self _) ?_)
    refine entX [((1000, 0), ⟨136, 3, [[.lst 1 (List.map byteV j1_0), .sc (.int .i64 j1_1), .sc (.int .i64 j1_2)]], false, false⟩, some (1000, 0)), ((2003, 0), ⟨39, 6, List.map recV (v0_3 ++ [Rec.mk x8 j1_3 x5.ttl j1_4 j1_5 j1_6]), false, true⟩, some (31, 0))] [] ⟨⟨rfl, _, rfl, rfl, rfl, rfl, id, rowsCv_one (.cons (.free rfl) (.cons (.free rfl) (.cons (.free rfl) .nil))), rowsZ_one rfl⟩, ⟨rfl, _, rfl, rfl, rfl, rfl, id, rowsCv_eq rfl (allFree_map recV_free), rowsZ_map recV_len⟩, trivial⟩ trivial rfl rfl ?_
    exact ⟨(.ptr rfl), (.ref rfl), (.free rfl), trivial⟩
  ·replace h := cond_f h c4
   refine tri_exit ?_
   refine tri_sr ?_
   refine m1 ?_
   refine m2 ?_
   refine rt_nil ?_
   refine tri_ret ?_
   have e0 := (some2 h).1; have e1 := (some2 h).2; subst e0; subst e1
   exact endY (v' := .ref (2000, 0) 0 v0_3.length) [((2000, 0), ⟨39, 6, List.map recV v0_3, false, true⟩, some (2003, 0)), ((1000, 0), ⟨136, 3, [[.lst 1 (List.map byteV v0_0), .sc (.int .i64 v0_1), .sc (.int .i64 v0_2)]], false, false⟩, some (1000, 0))] [] (rvC (resTmp rfl) rvN) ⟨⟨rfl, _, rfl, rfl, rfl, rfl, id, rowsCv_eq rfl (allFree_map recV_free), rowsZ_map recV_len⟩, ⟨rfl, _, rfl, rfl, rfl, rfl, id, rowsCv_one (.cons (.free rfl) (.cons (.free rfl) (.cons (.free rfl) .nil))), rowsZ_one rfl⟩, trivial⟩ trivial rfl rfl (by kernel_rfl) (by simp only [V.mat, V.mat1, V.mat0, matL, matT, List.length_map] <;> rfl) (.ref rfl)

/- spec.Labels -/
def inv_s_Labels_2 (p0 : ByteArray) (v0_0 : List ByteArray) (v0_1 : Int) (v0_2 : Int) (j2_0 : Bool) : St := mkT 37 [(0, .sc (.string p0)), (3, .ref (2003, 0) 0 v0_0.length), (4, .sc (.int .i64 v0_1)), (5, .sc (.int .i64 v0_2)), (26, .sc (.bool j2_0))] [((2003, 0), some ⟨9, 1, List.map strV v0_0, false, true⟩)]
def inv_s_Labels_1 (p0 : ByteArray) (v0_0 : List ByteArray) (v0_1 : Int) (v0_2 : Int) (j1_0 : Bool) : St := mkT 37 [(0, .sc (.string p0)), (3, .ref (2003, 0) 0 v0_0.length), (4, .sc (.int .i64 v0_1)), (5, .sc (.int .i64 v0_2)), (14, .sc (.bool j1_0))] [((2003, 0), some ⟨9, 1, List.map strV v0_0, false, true⟩)]
def inv_s_Labels_0 (p0 : ByteArray) (v0_0 : List ByteArray) (v0_1 : Int) (v0_2 : Int) : St := mkT 37 [(0, .sc (.string p0)), (3, .ref (2003, 0) 0 v0_0.length), (4, .sc (.int .i64 v0_1)), (5, .sc (.int .i64 v0_2))] [((2003, 0), some ⟨9, 1, List.map strV v0_0, false, true⟩)]
set_option maxRecDepth 4000 in
set_option maxHeartbeats 800000 in
theorem ws_Labels (p0 : ByteArray) (r0 : List ByteArray) (h : s_Labels p0 = some r0) : Runs Tryd.prog 176 [.sc (.string p0)] [] (.own 9 1 (List.map strV r0)) [] := by
 unfold s_Labels at h
 refine runsR [.tmp 2] Tryd.func176 rfl rfl rfl rfl ?_
 rw [Tryd.ntmps176]
 refine tri_sr ?_
 refine s_mv (.inr rfl) (v := .nils) rfl rfl rfl rfl ?_
 refine rt_nil ?_
 refine tri_sr ?_
 refine s_buildSlice (rows' := List.map strV ([] : List ByteArray)) rfl rfl rfl sl33 zc9 rfl rfl rfl rfl rfl rfl rfl rfl rfl ?_
 refine m2 ?_
 refine rt_nil ?_
 refine tri_sr ?_
 refine s_mv (.inr rfl) (v := .sc (.int .i64 0)) rfl rfl rfl rfl ?_
 refine rt_nil ?_
 refine tri_seq ?_
 refine tri_sr ?_
 refine s_mv (.inr rfl) (v := .sc (.int .i64 0)) rfl rfl rfl rfl ?_
 refine rt_nil ?_
 refine tri_block ?_
 refine tri_loop (ι := { p : Nat × (List ByteArray) × Int × Int // s_Labels_l0 p0 p.1 p.2.1 p.2.2.1 p.2.2.2 = some r0 }) (fun p => inv_s_Labels_0 p0 p.1.2.1 p.1.2.2.1 p.1.2.2.2) (fun p => p.1.1) ⟨(fuel0, ([] : List ByteArray), 0, 0), h⟩ ?_ ?_
 ·skip
  refine entX [((2003, 0), ⟨9, 1, List.map strV ([] : List ByteArray), false, true⟩, some (6, 0))] [] ⟨⟨rfl, _, rfl, rfl, rfl, rfl, id, rowsCv_eq rfl (allFree_map strV_free), rowsZ_map strV_len⟩, trivial⟩ trivial rfl rfl ?_
  exact ⟨(.free rfl), (.ref rfl), (.free rfl), (.free rfl), trivial⟩
 ·rintro ⟨⟨f0, v0_0, v0_1, v0_2⟩, h⟩
  replace h : s_Labels_l0 p0 f0 v0_0 v0_1 v0_2 = some r0 := h
  cases f0 with
  | zero => cases h
  | succ f0 =>
  rw [s_Labels_l0] at h
  show Tri _ _ _ (inv_s_Labels_0 p0 v0_0 v0_1 v0_2)
  refine tri_seq ?_
  refine tri_cutI (ι := { p : Bool // s_Labels_j1 p0 v0_0 v0_1 v0_2 (s_Labels_l0 p0 f0) p = some r0 }) (fun p => inv_s_Labels_1 p0 v0_0 v0_1 v0_2 p.1) ?_ ?_
  ·skip
   refine tri_region ?_
   refine m1 ?_
   refine m1 ?_
   refine s_of (st_lenS rfl rfl iss9) rfl rfl rfl rfl ?_
   refine s_of (st_leq rfl rfl rfl) rfl rfl rfl rfl ?_
   refine m1 ?_
   refine s_split (t := 11) rfl (fun b1 => ?_) (fun b1 => ?_)
   ·replace h := cond_t h b1
    refine m1 ?_
    refine s_of (st_neS rfl rfl rfl) rfl rfl rfl rfl ?_
    refine s_pickT rfl rfl (by conv => lhs; whnf) rfl rfl rfl ?_
    refine rt_nil ?_
    refine Exists.intro ⟨!decide (p0 = (⟨#[]⟩ : ByteArray)), h⟩ ?_
    refine entX [((2003, 0), ⟨9, 1, List.map strV v0_0, false, true⟩, some (2003, 0))] [] ⟨⟨rfl, _, rfl, rfl, rfl, rfl, id, rowsCv_eq rfl (allFree_map strV_free), rowsZ_map strV_len⟩, trivial⟩ trivial rfl rfl ?_
    exact ⟨(.free rfl), (.ref rfl), (.free rfl), (.free rfl), (.free rfl), trivial⟩
   ·replace h := cond_f h b1
    refine s_skip rfl rfl rfl ?_
    refine s_skip rfl rfl rfl ?_
    refine s_pickF rfl rfl (v := .sc (.bool false)) rfl rfl rfl rfl ?_
    refine rt_nil ?_
    refine Exists.intro ⟨false, h⟩ ?_
    refine entX [((2003, 0), ⟨9, 1, List.map strV v0_0, false, true⟩, some (2003, 0))] [] ⟨⟨rfl, _, rfl, rfl, rfl, rfl, id, rowsCv_eq rfl (allFree_map strV_free), rowsZ_map strV_len⟩, trivial⟩ trivial rfl rfl ?_
    exact ⟨(.free rfl), (.ref rfl), (.free rfl), (.free rfl), (.free rfl), trivial⟩
  ·rintro ⟨j1_0, h⟩
   replace h : s_Labels_j1 p0 v0_0 v0_1 v0_2 (s_Labels_l0 p0 f0) j1_0 = some r0 := h
   unfold s_Labels_j1 at h
   show Tri _ _ _ (inv_s_Labels_1 p0 v0_0 v0_1 v0_2 j1_0)
   refine tri_cond rfl (fun c1 => ?_) (fun c1 => ?_)
   ·replace h := cond_t h c1
    refine tri_skip ?_
    refine tri_seq ?_
    refine tri_block ?_
    refine tri_cutI (ι := { p : Bool // s_Labels_j2 p0 v0_0 v0_1 v0_2 (s_Labels_l0 p0 f0) p = some r0 }) (fun p => inv_s_Labels_2 p0 v0_0 v0_1 v0_2 p.1) ?_ ?_
    ·skip
     refine tri_region ?_
     refine m1 ?_
     refine m1 ?_
     refine s_of (st_lenS rfl rfl iss9) rfl rfl rfl rfl ?_
     refine s_of (st_eqI rfl rfl rfl) rfl rfl rfl rfl ?_
     refine m1 ?_
     refine s_split (t := 21) rfl (fun b2 => ?_) (fun b2 => ?_)
     ·replace h := cond_t h b2
      refine s_skip rfl rfl rfl ?_
      refine s_skip rfl rfl rfl ?_
      refine s_skip rfl rfl rfl ?_
      refine s_skip rfl rfl rfl ?_
      refine s_pickT rfl rfl (v := .sc (.bool true)) rfl rfl rfl rfl ?_
      refine rt_nil ?_
      refine Exists.intro ⟨true, h⟩ ?_
      refine entX [((2003, 0), ⟨9, 1, List.map strV v0_0, false, true⟩, some (2003, 0))] [] ⟨⟨rfl, _, rfl, rfl, rfl, rfl, id, rowsCv_eq rfl (allFree_map strV_free), rowsZ_map strV_len⟩, trivial⟩ trivial rfl rfl ?_
      exact ⟨(.free rfl), (.ref rfl), (.free rfl), (.free rfl), (.free rfl), trivial⟩
     ·replace h := cond_f h b2
      refine m1 ?_
      refine m1 ?_
      refine bnd1_elim h fun x3 q4 h => ?_
      refine s_idxS rfl rfl rfl iss9 q4 rfl rfl rfl ?_
      refine s_of (st_eqI rfl rfl rfl) rfl rfl rfl rfl ?_
      refine s_pickF rfl rfl (by conv => lhs; whnf) rfl rfl rfl ?_
      refine rt_nil ?_
      refine Exists.intro ⟨decide (x3 = 46), h⟩ ?_
      refine entX [((2003, 0), ⟨9, 1, List.map strV v0_0, false, true⟩, some (2003, 0))] [] ⟨⟨rfl, _, rfl, rfl, rfl, rfl, id, rowsCv_eq rfl (allFree_map strV_free), rowsZ_map strV_len⟩, trivial⟩ trivial rfl rfl ?_
      exact ⟨(.free rfl), (.ref rfl), (.free rfl), (.free rfl), (.free rfl), trivial⟩
    ·rintro ⟨j2_0, h⟩
     replace h : s_Labels_j2 p0 v0_0 v0_1 v0_2 (s_Labels_l0 p0 f0) j2_0 = some r0 := h
     unfold s_Labels_j2 at h
     show Tri _ _ _ (inv_s_Labels_2 p0 v0_0 v0_1 v0_2 j2_0)
     refine tri_cond rfl (fun c2 => ?_) (fun c2 => ?_)
     ·replace h := cond_t h c2
      refine tri_sr ?_
      refine m1 ?_
      refine m1 ?_
      refine m1 ?_
      refine m1 ?_
      refine grd_elim h fun g3 h => ?_
      refine s_sliceS (a := v0_1) (b := v0_2) rfl rfl iss9 ⟨_, rfl⟩ ⟨_, rfl⟩ g3 rfl rfl rfl ?_
      refine s_buildSlice (rows' := List.map strV [p0.extract v0_1.toNat v0_2.toNat]) rfl rfl rfl sl33 zc9 rfl rfl rfl rfl rfl rfl rfl rfl rfl ?_
      refine grd_elim h fun g4 h => ?_
      refine s_appL rfl rfl rfl sl33 zc9 rfl rfl rfl rfl rfl rfl (src_refL rfl rfl) g4 rfl rfl ?_
      refine m2 ?_
      refine rt_nil ?_
      refine tri_region ?_
      refine m1 ?_
      refine grd_elim h fun g5 h => ?_
      refine s_addI rfl rfl rfl rfl g5 rfl rfl rfl ?_
      refine m2 ?_
      refine rt_nil ?_
      refine tri_region ?_
      refine m1 ?_
      refine grd_elim h fun g6 h => ?_
      refine s_addI rfl rfl rfl rfl g6 rfl rfl rfl ?_
      refine m2 ?_
      refine rt_nil ?_
      refine Exists.intro ⟨(f0, v0_0 ++ [p0.extract v0_1.toNat v0_2.toNat], v0_2 + 1, v0_2 + 1), h⟩ (And.intro (Nat.lt_succ_self _) ?_)
      refine entX [((2003, 0), ⟨9, 1, List.map strV (v0_0 ++ [p0.extract v0_1.toNat v0_2.toNat]), false, true⟩, some (33, 0))] [] ⟨⟨rfl, _, rfl, rfl, rfl, rfl, id, rowsCv_eq rfl (allFree_map strV_free), rowsZ_map strV_len⟩, trivial⟩ trivial rfl rfl ?_
      exact ⟨(.free rfl), (.ref rfl), (.free rfl), (.free rfl), trivial⟩
     ·replace h := cond_f h c2
      refine tri_skip ?_
      refine tri_region ?_
      refine m1 ?_
      refine grd_elim h fun g7 h => ?_
      refine s_addI rfl rfl rfl rfl g7 rfl rfl rfl ?_
      refine m2 ?_
      refine rt_nil ?_
      refine Exists.intro ⟨(f0, v0_0, v0_1, v0_2 + 1), h⟩ (And.intro (Nat.lt_succ_self _) ?_)
      refine entX [((2003, 0), ⟨9, 1, List.map strV v0_0, false, true⟩, some (2003, 0))] [] ⟨⟨rfl, _, rfl, rfl, rfl, rfl, id, rowsCv_eq rfl (allFree_map strV_free), rowsZ_map strV_len⟩, trivial⟩ trivial rfl rfl ?_
      exact ⟨(.free rfl), (.ref rfl), (.free rfl), (.free rfl), trivial⟩
   ·replace h := cond_f h c1
    refine tri_exit ?_
    refine tri_sr ?_
    refine m1 ?_
    refine m2 ?_
    refine rt_nil ?_
    refine tri_ret ?_
    have e0 := (some1 h); subst e0
    exact endY (v' := .ref (2000, 0) 0 v0_0.length) [((2000, 0), ⟨9, 1, List.map strV v0_0, false, true⟩, some (2003, 0))] [] (rvC (resTmp rfl) rvN) ⟨⟨rfl, _, rfl, rfl, rfl, rfl, id, rowsCv_eq rfl (allFree_map strV_free), rowsZ_map strV_len⟩, trivial⟩ trivial rfl rfl (by kernel_rfl) (by simp only [V.mat, V.mat1, V.mat0, matL, matT, List.length_map] <;> rfl) (.ref rfl)

/- spec.LessName -/
def inv_s_LessName_2 (x1 : List ByteArray) (x3 : List ByteArray) (v1_0 : Int) (j2_0 : Bool) : St := mkT 51 [(5, .ref (11, 0) 0 x1.length), (6, .ref (13, 0) 0 x3.length), (7, .sc (.int .i64 v1_0)), (23, .sc (.bool j2_0))] [((11, 0), some ⟨9, 1, List.map strV x1, false, true⟩), ((13, 0), some ⟨9, 1, List.map strV x3, false, true⟩)]
def inv_s_LessName_1 (x1 : List ByteArray) (x3 : List ByteArray) (v1_0 : Int) : St := mkT 51 [(5, .ref (11, 0) 0 x1.length), (6, .ref (13, 0) 0 x3.length), (7, .sc (.int .i64 v1_0))] [((11, 0), some ⟨9, 1, List.map strV x1, false, true⟩), ((13, 0), some ⟨9, 1, List.map strV x3, false, true⟩)]
def inv_s_LessName_0 (x1 : List ByteArray) (x3 : List ByteArray) : St := mkT 51 [(5, .ref (11, 0) 0 x1.length), (6, .ref (13, 0) 0 x3.length)] [((11, 0), some ⟨9, 1, List.map strV x1, false, true⟩), ((13, 0), some ⟨9, 1, List.map strV x3, false, true⟩)]
set_option maxRecDepth 4000 in
set_option maxHeartbeats 800000 in
theorem ws_LessName (p0 : ByteArray) (p1 : ByteArray) (r0 : Bool) (h : s_LessName p0 p1 = some r0) : Runs Tryd.prog 194 [.sc (.string p0), .sc (.string p1)] [] (.sc (.bool r0)) [] := by
 unfold s_LessName at h
 refine runsR [.tmp 4] Tryd.func194 rfl rfl rfl rfl ?_
 rw [Tryd.ntmps194]
 refine tri_sr ?_
 refine s_mv (.inr rfl) (v := .sc (.bool false)) rfl rfl rfl rfl ?_
 refine rt_nil ?_
 refine tri_sr ?_
 refine m1 ?_
 refine bnd1_elim h fun x1 q2 h => ?_
 refine s_callN (kb := []) (ns := []) (v := .ref (11, 0) 0 x1.length) rfl rfl cl176 (ws_Labels p0 x1 q2) rfl (.cons (.free rfl) .nil) trivial memNil .nil memNil rfl ⟨(allSc_map strV_sc), trivial⟩ memNil rfl (by simp only [V.mat, V.mat1, V.mat0, matL, matT, List.length_map] <;> rfl) rfl rfl rfl rfl ?_
 refine m2 ?_
 refine rt_nil ?_
 refine tri_sr ?_
 refine m1 ?_
 refine bnd1_elim h fun x3 q4 h => ?_
 refine s_callN (kb := []) (ns := []) (v := .ref (13, 0) 0 x3.length) rfl rfl cl176 (ws_Labels p1 x3 q4) rfl (.cons (.free rfl) .nil) trivial memNil .nil memNil rfl ⟨(allSc_map strV_sc), trivial⟩ memNil rfl (by simp only [V.mat, V.mat1, V.mat0, matL, matT, List.length_map] <;> rfl) rfl rfl rfl rfl ?_
 refine m2 ?_
 refine rt_nil ?_
 refine tri_cutI (ι := { p : Unit // s_LessName_j0 x1 x3 = some r0 }) (fun p => inv_s_LessName_0 x1 x3) ?_ ?_
 ·skip
  refine tri_sr ?_
  refine s_mv (.inr rfl) (v := .sc (.int .i64 1)) rfl rfl rfl rfl ?_
  refine rt_nil ?_
  refine tri_block ?_
  refine tri_loop (ι := { p : Nat × Int // s_LessName_l1 x1 x3 p.1 p.2 = some r0 }) (fun p => inv_s_LessName_1 x1 x3 p.1.2) (fun p => p.1.1) ⟨(fuel0, 1), h⟩ ?_ ?_
  ·skip
   refine entX [((11, 0), ⟨9, 1, List.map strV x1, false, true⟩, some (11, 0)), ((13, 0), ⟨9, 1, List.map strV x3, false, true⟩, some (13, 0))] [] ⟨⟨rfl, _, rfl, rfl, rfl, rfl, id, rowsCv_eq rfl (allFree_map strV_free), rowsZ_map strV_len⟩, ⟨rfl, _, rfl, rfl, rfl, rfl, id, rowsCv_eq rfl (allFree_map strV_free), rowsZ_map strV_len⟩, trivial⟩ trivial rfl rfl ?_
   exact ⟨(.ref rfl), (.ref rfl), (.free rfl), trivial⟩
  ·rintro ⟨⟨f1, v1_0⟩, h⟩
   replace h : s_LessName_l1 x1 x3 f1 v1_0 = some r0 := h
   cases f1 with
   | zero => cases h
   | succ f1 =>
   rw [s_LessName_l1] at h
   show Tri _ _ _ (inv_s_LessName_1 x1 x3 v1_0)
   refine tri_seq ?_
   refine tri_cutI (ι := { p : Bool // s_LessName_j2 x1 x3 v1_0 (s_LessName_l1 x1 x3 f1) p = some r0 }) (fun p => inv_s_LessName_2 x1 x3 v1_0 p.1) ?_ ?_
   ·skip
    refine tri_region ?_
    refine m1 ?_
    refine m1 ?_
    refine s_len (m := x1.length) rfl sl33 rfl rfl rfl rfl ?_
    refine s_of (st_leq rfl rfl rfl) rfl rfl rfl rfl ?_
    refine m1 ?_
    refine s_split (t := 18) rfl (fun b5 => ?_) (fun b5 => ?_)
    ·replace h := cond_t h b5
     refine m1 ?_
     refine m1 ?_
     refine s_len (m := x3.length) rfl sl33 rfl rfl rfl rfl ?_
     refine s_of (st_leq rfl rfl rfl) rfl rfl rfl rfl ?_
     refine s_pickT rfl rfl (by conv => lhs; whnf) rfl rfl rfl ?_
     refine rt_nil ?_
     refine Exists.intro ⟨decide (v1_0 ≤ (x3.length : Int)), h⟩ ?_
     refine entX [((11, 0), ⟨9, 1, List.map strV x1, false, true⟩, some (11, 0)), ((13, 0), ⟨9, 1, List.map strV x3, false, true⟩, some (13, 0))] [] ⟨⟨rfl, _, rfl, rfl, rfl, rfl, id, rowsCv_eq rfl (allFree_map strV_free), rowsZ_map strV_len⟩, ⟨rfl, _, rfl, rfl, rfl, rfl, id, rowsCv_eq rfl (allFree_map strV_free), rowsZ_map strV_len⟩, trivial⟩ trivial rfl rfl ?_
     exact ⟨(.ref rfl), (.ref rfl), (.free rfl), (.free rfl), trivial⟩
    ·replace h := cond_f h b5
     refine s_skip rfl rfl rfl ?_
     refine s_skip rfl rfl rfl ?_
     refine s_skip rfl rfl rfl ?_
     refine s_skip rfl rfl rfl ?_
     refine s_pickF rfl rfl (v := .sc (.bool false)) rfl rfl rfl rfl ?_
     refine rt_nil ?_
     refine Exists.intro ⟨false, h⟩ ?_
     refine entX [((11, 0), ⟨9, 1, List.map strV x1, false, true⟩, some (11, 0)), ((13, 0), ⟨9, 1, List.map strV x3, false, true⟩, some (13, 0))] [] ⟨⟨rfl, _, rfl, rfl, rfl, rfl, id, rowsCv_eq rfl (allFree_map strV_free), rowsZ_map strV_len⟩, ⟨rfl, _, rfl, rfl, rfl, rfl, id, rowsCv_eq rfl (allFree_map strV_free), rowsZ_map strV_len⟩, trivial⟩ trivial rfl rfl ?_
     exact ⟨(.ref rfl), (.ref rfl), (.free rfl), (.free rfl), trivial⟩
   ·rintro ⟨j2_0, h⟩
    replace h : s_LessName_j2 x1 x3 v1_0 (s_LessName_l1 x1 x3 f1) j2_0 = some r0 := h
    unfold s_LessName_j2 at h
    show Tri _ _ _ (inv_s_LessName_2 x1 x3 v1_0 j2_0)
    refine tri_cond rfl (fun c5 => ?_) (fun c5 => ?_)
    ·replace h := cond_t h c5
     refine tri_skip ?_
     refine tri_seq ?_
     refine tri_block ?_
     refine tri_sr ?_
     refine m1 ?_
     refine m1 ?_
     refine s_len (m := x1.length) rfl sl33 rfl rfl rfl rfl ?_
     refine m1 ?_
     refine grd_elim h fun g6 h => ?_
     refine s_subI rfl rfl rfl rfl g6 rfl rfl rfl ?_
     refine bnd1_elim h fun x7 q8 h => ?_
     have q8a := (idx_some q8).1; have q8b := (idx_some q8).2
     refine s_indexZ rfl rfl rfl rfl sl33 rfl q8a (get_lt q8b) rfl rfl rfl ?_
     refine s_load rfl rfl rfl (rowG q8b) ty9 rfl (.inr rfl) (by conv => lhs; whnf) rfl rfl rfl ?_
     refine m2 ?_
     refine rt_nil ?_
     refine tri_sr ?_
     refine m1 ?_
     refine m1 ?_
     refine s_len (m := x3.length) rfl sl33 rfl rfl rfl rfl ?_
     refine m1 ?_
     refine grd_elim h fun g9 h => ?_
     refine s_subI rfl rfl rfl rfl g9 rfl rfl rfl ?_
     refine bnd1_elim h fun x10 q11 h => ?_
     have q11a := (idx_some q11).1; have q11b := (idx_some q11).2
     refine s_indexZ rfl rfl rfl rfl sl33 rfl q11a (get_lt q11b) rfl rfl rfl ?_
     refine s_load rfl rfl rfl (rowG q11b) ty9 rfl (.inr rfl) (by conv => lhs; whnf) rfl rfl rfl ?_
     refine m2 ?_
     refine rt_nil ?_
     refine tri_sr ?_
     refine m1 ?_
     refine m1 ?_
     refine s_of (st_neS rfl rfl rfl) rfl rfl rfl rfl ?_
     refine rt_nil ?_
     refine tri_cond rfl (fun c12 => ?_) (fun c12 => ?_)
     ·replace h := cond_t h c12
      refine tri_sr ?_
      refine m1 ?_
      refine m1 ?_
      refine s_of (st_ltS rfl rfl rfl) rfl rfl rfl rfl ?_
      refine m2 ?_
      refine rt_nil ?_
      refine tri_ret ?_
      have e0 := (some1 h); subst e0
      exact endY [] [] (rvC (resTmp rfl) rvN) trivial trivial rfl rfl rfl rfl (.free rfl)
     ·replace h := cond_f h c12
      refine tri_skip ?_
      refine tri_region ?_
      refine m1 ?_
      refine grd_elim h fun g13 h => ?_
      refine s_addI rfl rfl rfl rfl g13 rfl rfl rfl ?_
      refine m2 ?_
      refine rt_nil ?_
      refine Exists.intro ⟨(f1, v1_0 + 1), h⟩ (And.intro (Nat.lt_succ_self _) ?_)
      refine entX [((11, 0), ⟨9, 1, List.map strV x1, false, true⟩, some (11, 0)), ((13, 0), ⟨9, 1, List.map strV x3, false, true⟩, some (13, 0))] [] ⟨⟨rfl, _, rfl, rfl, rfl, rfl, id, rowsCv_eq rfl (allFree_map strV_free), rowsZ_map strV_len⟩, ⟨rfl, _, rfl, rfl, rfl, rfl, id, rowsCv_eq rfl (allFree_map strV_free), rowsZ_map strV_len⟩, trivial⟩ trivial rfl rfl ?_
      exact ⟨(.ref rfl), (.ref rfl), (.free rfl), trivial⟩
    ·replace h := cond_f h c5
     refine tri_exit ?_
     refine Exists.intro ⟨(), h⟩ ?_
     refine entX [((11, 0), ⟨9, 1, List.map strV x1, false, true⟩, some (11, 0)), ((13, 0), ⟨9, 1, List.map strV x3, false, true⟩, some (13, 0))] [] ⟨⟨rfl, _, rfl, rfl, rfl, rfl, id, rowsCv_eq rfl (allFree_map strV_free), rowsZ_map strV_len⟩, ⟨rfl, _, rfl, rfl, rfl, rfl, id, rowsCv_eq rfl (allFree_map strV_free), rowsZ_map strV_len⟩, trivial⟩ trivial rfl rfl ?_
     exact ⟨(.ref rfl), (.ref rfl), trivial⟩
 ·rintro ⟨u, h⟩
  replace h : s_LessName_j0 x1 x3 = some r0 := h
  unfold s_LessName_j0 at h
  show Tri _ _ _ (inv_s_LessName_0 x1 x3)
  refine tri_sr ?_
  refine m1 ?_
  refine s_len (m := x1.length) rfl sl33 rfl rfl rfl rfl ?_
  refine m1 ?_
  refine s_len (m := x3.length) rfl sl33 rfl rfl rfl rfl ?_
  refine s_of (st_lss rfl rfl rfl) rfl rfl rfl rfl ?_
  refine m2 ?_
  refine rt_nil ?_
  refine tri_ret ?_
  have e0 := (some1 h); subst e0
  exact endY [] [] (rvC (resTmp rfl) rvN) trivial trivial rfl rfl rfl rfl (.free rfl)

/- spec.LessRecord -/

set_option maxRecDepth 4000 in
set_option maxHeartbeats 800000 in
theorem ws_LessRecord (p0 : Rec) (p1 : Rec) (r0 : Bool) (h : s_LessRecord p0 p1 = some r0) : Runs Tryd.prog 166 [.agg (recV p0), .agg (recV p1)] [] (.sc (.bool r0)) [] := by
 unfold s_LessRecord at h
 refine runsR [.tmp 4] Tryd.func166 rfl rfl rfl rfl ?_
 rw [Tryd.ntmps166]
 refine tri_sr ?_
 refine s_box rfl rfl rfl rfl rfl rfl rfl ?_
 refine s_box rfl rfl rfl rfl rfl rfl rfl ?_
 refine s_mv (.inr rfl) (v := .sc (.bool false)) rfl rfl rfl rfl ?_
 refine rt_nil ?_
 refine tri_seq ?_
 refine tri_block ?_
 refine tri_sr ?_
 refine s_fieldAddr rfl rfl fd39_0 rfl rfl rfl rfl ?_
 refine s_load rfl rfl rfl rfl ty9 rfl (.inr rfl) (by conv => lhs; whnf) rfl rfl rfl ?_
 refine s_fieldAddr rfl rfl fd39_0 rfl rfl rfl rfl ?_
 refine s_load rfl rfl rfl rfl ty9 rfl (.inr rfl) (by conv => lhs; whnf) rfl rfl rfl ?_
 refine s_of (st_neS rfl rfl rfl) rfl rfl rfl rfl ?_
 refine m2 ?_
 refine rt_nil ?_
 refine tri_cond rfl (fun c1 => ?_) (fun c1 => ?_)
 ·replace h := cond_t h c1
  refine tri_sr ?_
  refine s_fieldAddr rfl rfl fd39_0 rfl rfl rfl rfl ?_
  refine s_load rfl rfl rfl rfl ty9 rfl (.inr rfl) (by conv => lhs; whnf) rfl rfl rfl ?_
  refine s_fieldAddr rfl rfl fd39_0 rfl rfl rfl rfl ?_
  refine s_load rfl rfl rfl rfl ty9 rfl (.inr rfl) (by conv => lhs; whnf) rfl rfl rfl ?_
  refine bnd1_elim h fun x2 q3 h => ?_
  refine s_callN (kb := []) (ns := []) (v := .sc (.bool x2)) rfl rfl cl194 (ws_LessName p0.name p1.name x2 q3) rfl (.cons (.free rfl) (.cons (.free rfl) .nil)) trivial memNil .nil memNil rfl trivial memNil rfl rfl rfl rfl rfl rfl ?_
  refine m2 ?_
  refine rt_nil ?_
  refine tri_ret ?_
  have e0 := (some1 h); subst e0
  exact endY [] [] (rvC (resTmp rfl) rvN) trivial trivial rfl rfl rfl rfl (.free rfl)
 ·replace h := cond_f h c1
  refine tri_sr ?_
  refine s_fieldAddr rfl rfl fd39_1 rfl rfl rfl rfl ?_
  refine s_load rfl rfl rfl rfl ty3 rfl (.inr rfl) (by conv => lhs; whnf) rfl rfl rfl ?_
  refine s_fieldAddr rfl rfl fd39_1 rfl rfl rfl rfl ?_
  refine s_load rfl rfl rfl rfl ty3 rfl (.inr rfl) (by conv => lhs; whnf) rfl rfl rfl ?_
  refine s_of (st_neI rfl rfl rfl) rfl rfl rfl rfl ?_
  refine m2 ?_
  refine rt_nil ?_
  refine tri_cond rfl (fun c4 => ?_) (fun c4 => ?_)
  ·replace h := cond_t h c4
   refine tri_sr ?_
   refine s_fieldAddr rfl rfl fd39_1 rfl rfl rfl rfl ?_
   refine s_load rfl rfl rfl rfl ty3 rfl (.inr rfl) (by conv => lhs; whnf) rfl rfl rfl ?_
   refine s_fieldAddr rfl rfl fd39_1 rfl rfl rfl rfl ?_
   refine s_load rfl rfl rfl rfl ty3 rfl (.inr rfl) (by conv => lhs; whnf) rfl rfl rfl ?_
   refine s_of (st_lss rfl rfl rfl) rfl rfl rfl rfl ?_
   refine m2 ?_
   refine rt_nil ?_
   refine tri_ret ?_
   have e0 := (some1 h); subst e0
   exact endY [] [] (rvC (resTmp rfl) rvN) trivial trivial rfl rfl rfl rfl (.free rfl)
  ·replace h := cond_f h c4
   refine tri_sr ?_
   refine s_fieldAddr rfl rfl fd39_3 rfl rfl rfl rfl ?_
   refine s_load rfl rfl rfl rfl ty3 rfl (.inr rfl) (by conv => lhs; whnf) rfl rfl rfl ?_
   refine s_fieldAddr rfl rfl fd39_3 rfl rfl rfl rfl ?_
   refine s_load rfl rfl rfl rfl ty3 rfl (.inr rfl) (by conv => lhs; whnf) rfl rfl rfl ?_
   refine s_of (st_neI rfl rfl rfl) rfl rfl rfl rfl ?_
   refine m2 ?_
   refine rt_nil ?_
   refine tri_cond rfl (fun c5 => ?_) (fun c5 => ?_)
   ·replace h := cond_t h c5
    refine tri_sr ?_
    refine s_fieldAddr rfl rfl fd39_3 rfl rfl rfl rfl ?_
    refine s_load rfl rfl rfl rfl ty3 rfl (.inr rfl) (by conv => lhs; whnf) rfl rfl rfl ?_
    refine s_fieldAddr rfl rfl fd39_3 rfl rfl rfl rfl ?_
    refine s_load rfl rfl rfl rfl ty3 rfl (.inr rfl) (by conv => lhs; whnf) rfl rfl rfl ?_
    refine s_of (st_lss rfl rfl rfl) rfl rfl rfl rfl ?_
    refine m2 ?_
    refine rt_nil ?_
    refine tri_ret ?_
    have e0 := (some1 h); subst e0
    exact endY [] [] (rvC (resTmp rfl) rvN) trivial trivial rfl rfl rfl rfl (.free rfl)
   ·replace h := cond_f h c5
    refine tri_sr ?_
    refine s_fieldAddr rfl rfl fd39_4 rfl rfl rfl rfl ?_
    refine s_load rfl rfl rfl rfl ty9 rfl (.inr rfl) (by conv => lhs; whnf) rfl rfl rfl ?_
    refine s_fieldAddr rfl rfl fd39_4 rfl rfl rfl rfl ?_
    refine s_load rfl rfl rfl rfl ty9 rfl (.inr rfl) (by conv => lhs; whnf) rfl rfl rfl ?_
    refine s_of (st_neS rfl rfl rfl) rfl rfl rfl rfl ?_
    refine m2 ?_
    refine rt_nil ?_
    refine tri_cond rfl (fun c6 => ?_) (fun c6 => ?_)
    ·replace h := cond_t h c6
     refine tri_sr ?_
     refine s_fieldAddr rfl rfl fd39_4 rfl rfl rfl rfl ?_
     refine s_load rfl rfl rfl rfl ty9 rfl (.inr rfl) (by conv => lhs; whnf) rfl rfl rfl ?_
     refine s_fieldAddr rfl rfl fd39_4 rfl rfl rfl rfl ?_
     refine s_load rfl rfl rfl rfl ty9 rfl (.inr rfl) (by conv => lhs; whnf) rfl rfl rfl ?_
     refine bnd1_elim h fun x7 q8 h => ?_
     refine s_callN (kb := []) (ns := []) (v := .sc (.bool x7)) rfl rfl cl194 (ws_LessName p0.host p1.host x7 q8) rfl (.cons (.free rfl) (.cons (.free rfl) .nil)) trivial memNil .nil memNil rfl trivial memNil rfl rfl rfl rfl rfl rfl ?_
     refine m2 ?_
     refine rt_nil ?_
     refine tri_ret ?_
     have e0 := (some1 h); subst e0
     exact endY [] [] (rvC (resTmp rfl) rvN) trivial trivial rfl rfl rfl rfl (.free rfl)
    ·replace h := cond_f h c6
     refine tri_sr ?_
     refine s_fieldAddr rfl rfl fd39_5 rfl rfl rfl rfl ?_
     refine s_load rfl rfl rfl rfl ty9 rfl (.inr rfl) (by conv => lhs; whnf) rfl rfl rfl ?_
     refine s_fieldAddr rfl rfl fd39_5 rfl rfl rfl rfl ?_
     refine s_load rfl rfl rfl rfl ty9 rfl (.inr rfl) (by conv => lhs; whnf) rfl rfl rfl ?_
     refine s_of (st_neS rfl rfl rfl) rfl rfl rfl rfl ?_
     refine m2 ?_
     refine rt_nil ?_
     refine tri_cond rfl (fun c9 => ?_) (fun c9 => ?_)
     ·replace h := cond_t h c9
      refine tri_sr ?_
      refine s_fieldAddr rfl rfl fd39_5 rfl rfl rfl rfl ?_
      refine s_load rfl rfl rfl rfl ty9 rfl (.inr rfl) (by conv => lhs; whnf) rfl rfl rfl ?_
      refine s_fieldAddr rfl rfl fd39_5 rfl rfl rfl rfl ?_
      refine s_load rfl rfl rfl rfl ty9 rfl (.inr rfl) (by conv => lhs; whnf) rfl rfl rfl ?_
      refine s_of (st_ltS rfl rfl rfl) rfl rfl rfl rfl ?_
      refine m2 ?_
      refine rt_nil ?_
      refine tri_ret ?_
      have e0 := (some1 h); subst e0
      exact endY [] [] (rvC (resTmp rfl) rvN) trivial trivial rfl rfl rfl rfl (.free rfl)
     ·replace h := cond_f h c9
      refine tri_skip ?_
      refine tri_sr ?_
      refine s_fieldAddr rfl rfl fd39_2 rfl rfl rfl rfl ?_
      refine s_load rfl rfl rfl rfl ty3 rfl (.inr rfl) (by conv => lhs; whnf) rfl rfl rfl ?_
      refine s_fieldAddr rfl rfl fd39_2 rfl rfl rfl rfl ?_
      refine s_load rfl rfl rfl rfl ty3 rfl (.inr rfl) (by conv => lhs; whnf) rfl rfl rfl ?_
      refine s_of (st_lss rfl rfl rfl) rfl rfl rfl rfl ?_
      refine m2 ?_
      refine rt_nil ?_
      refine tri_ret ?_
      have e0 := (some1 h); subst e0
      exact endY [] [] (rvC (resTmp rfl) rvN) trivial trivial rfl rfl rfl rfl (.free rfl)

/- spec.SortRecords -/
def inv_s_SortRecords_3 (p0 : List Rec) (v0_0 : List Rec) (v0_1 : Nat) (v2_0 : Int) (j3_0 : Bool) : St := mkT 47 [(0, .lst 6 (List.map recV p0)), (3, .ref (2003, 0) 0 v0_0.length), (4, .sc (.int .i64 (v0_1 : Int))), (5, .sc (.int .i64 v2_0)), (28, .sc (.bool j3_0))] [((2003, 0), some ⟨39, 6, List.map recV v0_0, false, true⟩)]
def inv_s_SortRecords_2 (p0 : List Rec) (v0_0 : List Rec) (v0_1 : Nat) (v2_0 : Int) : St := mkT 47 [(0, .lst 6 (List.map recV p0)), (3, .ref (2003, 0) 0 v0_0.length), (4, .sc (.int .i64 (v0_1 : Int))), (5, .sc (.int .i64 v2_0))] [((2003, 0), some ⟨39, 6, List.map recV v0_0, false, true⟩)]
def inv_s_SortRecords_1 (p0 : List Rec) (v0_0 : List Rec) (v0_1 : Nat) (j1_0 : Int) : St := mkT 47 [(0, .lst 6 (List.map recV p0)), (3, .ref (2003, 0) 0 v0_0.length), (4, .sc (.int .i64 (v0_1 : Int))), (5, .sc (.int .i64 j1_0))] [((2003, 0), some ⟨39, 6, List.map recV v0_0, false, true⟩)]
def inv_s_SortRecords_0 (p0 : List Rec) (v0_0 : List Rec) (v0_1 : Nat) : St := mkT 47 [(0, .lst 6 (List.map recV p0)), (3, .ref (2003, 0) 0 v0_0.length), (4, .sc (.int .i64 (v0_1 : Int)))] [((2003, 0), some ⟨39, 6, List.map recV v0_0, false, true⟩)]
set_option maxRecDepth 4000 in
set_option maxHeartbeats 800000 in
theorem ws_SortRecords (p0 : List Rec) (r0 : List Rec) (h : s_SortRecords p0 = some r0) : Runs Tryd.prog 115 [.lst 6 (List.map recV p0)] [] (.own 39 6 (List.map recV r0)) [] := by
 unfold s_SortRecords at h
 refine runsR [.tmp 2] Tryd.func115 rfl rfl rfl rfl ?_
 rw [Tryd.ntmps115]
 refine tri_sr ?_
 refine s_mv (.inr rfl) (v := .nils) rfl rfl rfl rfl ?_
 refine rt_nil ?_
 refine tri_sr ?_
 refine s_buildSlice (rows' := List.map recV ([] : List Rec)) rfl rfl rfl sl24 zc39 rfl rfl rfl rfl rfl rfl rfl rfl rfl ?_
 refine m2 ?_
 refine rt_nil ?_
 refine tri_seq ?_
 refine tri_sr ?_
 refine s_mv (.inr rfl) (v := .sc (.int .i64 0)) rfl rfl rfl rfl ?_
 refine rt_nil ?_
 refine tri_block ?_
 refine tri_lstM 0 rfl (fun hl0 => ?_)
 refine tri_loop (ι := { p : (List Rec) × (List Rec) × Nat // p0.drop p.2.2 = p.1 ∧ s_SortRecords_l0 p.1 p.2.1 p.2.2 = some r0 }) (fun p => inv_s_SortRecords_0 p0 p.1.2.1 p.1.2.2) (fun p => p.1.1.length) ⟨(p0, ([] : List Rec), 0), rfl, h⟩ ?_ ?_
 ·skip
  refine entX [((2003, 0), ⟨39, 6, List.map recV ([] : List Rec), false, true⟩, some (6, 0))] [] ⟨⟨rfl, _, rfl, rfl, rfl, rfl, id, rowsCv_eq rfl (allFree_map recV_free), rowsZ_map recV_len⟩, trivial⟩ trivial rfl rfl ?_
  exact ⟨(.free rfl), (.ref rfl), (.free rfl), trivial⟩
 ·rintro ⟨⟨lrs0, v0_0, v0_1⟩, hd0, h⟩
  replace hd0 : p0.drop v0_1 = lrs0 := hd0
  replace h : s_SortRecords_l0 lrs0 v0_0 v0_1 = some r0 := h
  show Tri _ _ _ (inv_s_SortRecords_0 p0 v0_0 v0_1)
  refine tri_seq ?_
  refine tri_sr ?_
  refine m1 ?_
  refine m1 ?_
  refine s_lenL rfl sl24 rfl rfl rfl rfl ?_
  refine s_of (st_lss rfl rfl rfl) rfl rfl rfl rfl ?_
  refine rt_nil ?_
  refine tri_cond rfl (fun c1 => ?_) (fun c1 => ?_)
  ·refine drop_elim hd0 c1 fun e0 rs0 he hx0 hn0 => ?_
   subst he
   rw [s_SortRecords_l0] at h
   refine tri_skip ?_
   refine tri_seq ?_
   refine tri_block ?_
   refine tri_sr ?_
   refine m1 ?_
   refine s_len (m := v0_0.length) rfl sl24 rfl rfl rfl rfl ?_
   refine m2 ?_
   refine rt_nil ?_
   refine tri_cutI (ι := { p : Int // s_SortRecords_j1 v0_0 v0_1 e0 (s_SortRecords_l0 rs0) p = some r0 }) (fun p => inv_s_SortRecords_1 p0 v0_0 v0_1 p.1) ?_ ?_
   ·skip
    refine tri_block ?_
    refine tri_loop (ι := { p : Nat × Int // s_SortRecords_l2 v0_0 v0_1 e0 (s_SortRecords_l0 rs0) p.1 p.2 = some r0 }) (fun p => inv_s_SortRecords_2 p0 v0_0 v0_1 p.1.2) (fun p => p.1.1) ⟨(fuel0, (v0_0.length : Int)), h⟩ ?_ ?_
    ·skip
     refine entX [((2003, 0), ⟨39, 6, List.map recV v0_0, false, true⟩, some (2003, 0))] [] ⟨⟨rfl, _, rfl, rfl, rfl, rfl, id, rowsCv_eq rfl (allFree_map recV_free), rowsZ_map recV_len⟩, trivial⟩ trivial rfl rfl ?_
     exact ⟨(.free rfl), (.ref rfl), (.free rfl), (.free rfl), trivial⟩
    ·rintro ⟨⟨f2, v2_0⟩, h⟩
     replace h : s_SortRecords_l2 v0_0 v0_1 e0 (s_SortRecords_l0 rs0) f2 v2_0 = some r0 := h
     cases f2 with
     | zero => cases h
     | succ f2 =>
     rw [s_SortRecords_l2] at h
     show Tri _ _ _ (inv_s_SortRecords_2 p0 v0_0 v0_1 v2_0)
     refine tri_seq ?_
     refine tri_cutI (ι := { p : Bool // s_SortRecords_j3 v0_0 v0_1 e0 v2_0 (s_SortRecords_l0 rs0) (s_SortRecords_l2 v0_0 v0_1 e0 (s_SortRecords_l0 rs0) f2) p = some r0 }) (fun p => inv_s_SortRecords_3 p0 v0_0 v0_1 v2_0 p.1) ?_ ?_
     ·skip
      refine tri_draw mixed ?_
      refine m1 ?_
      refine s_of (st_gtr rfl rfl rfl) rfl rfl rfl rfl ?_
      refine m1 ?_
      refine s_split (t := 17) rfl (fun b2 => ?_) (fun b2 => ?_)
      ·replace h := cond_t h b2
       refine m1 ?_
       refine m1 ?_
       refine s_indexF (i := v0_1) rfl rfl rfl sl24 (get_ltM hx0) rfl rfl rfl ?_
       refine s_loadFR rfl rfl (rowG hx0) ty39 rfl rfl rfl ?_
       refine m1 ?_
       refine m1 ?_
       refine grd_elim h fun g3 h => ?_
       refine s_subI rfl rfl rfl rfl g3 rfl rfl rfl ?_
       refine bnd1_elim h fun x4 q5 h => ?_
       have q5a := (idx_some q5).1; have q5b := (idx_some q5).2
       refine s_indexZ rfl rfl rfl rfl sl24 rfl q5a (get_lt q5b) rfl rfl rfl ?_
       refine s_loadR rfl rfl rfl (rowG q5b) ty39 rfl rfl rfl ?_
       refine bnd1_elim h fun x6 q7 h => ?_
       refine s_callN (kb := []) (ns := []) (v := .sc (.bool x6)) rfl rfl cl166 (ws_LessRecord e0 x4 x6 q7) rfl (.cons (relAgg rfl) (.cons (relAgg rfl) .nil)) trivial memNil .nil memNil rfl trivial memNil rfl rfl rfl rfl rfl rfl ?_
       refine s_pickT rfl rfl (by conv => lhs; whnf) rfl rfl rfl ?_
       refine rt_nil ⟨by kernel_rfl, ?_⟩
       refine Exists.intro ⟨x6, h⟩ ?_
       refine entX [((2003, 0), ⟨39, 6, List.map recV v0_0, false, true⟩, some (2003, 0))] [] ⟨⟨rfl, _, rfl, rfl, rfl, rfl, id, rowsCv_eq rfl (allFree_map recV_free), rowsZ_map recV_len⟩, trivial⟩ trivial rfl rfl ?_
       exact ⟨(.free rfl), (.ref rfl), (.free rfl), (.free rfl), (.free rfl), trivial⟩
      ·replace h := cond_f h b2
       refine s_skip rfl rfl rfl ?_
       refine s_skip rfl rfl rfl ?_
       refine s_skip rfl rfl rfl ?_
       refine s_skip rfl rfl rfl ?_
       refine s_skip rfl rfl rfl ?_
       refine s_skip rfl rfl rfl ?_
       refine s_skip rfl rfl rfl ?_
       refine s_skip rfl rfl rfl ?_
       refine s_skip rfl rfl rfl ?_
       refine s_skip rfl rfl rfl ?_
       refine s_pickF rfl rfl (v := .sc (.bool false)) rfl rfl rfl rfl ?_
       refine rt_nil ⟨by kernel_rfl, ?_⟩
       refine Exists.intro ⟨false, h⟩ ?_
       refine entX [((2003, 0), ⟨39, 6, List.map recV v0_0, false, true⟩, some (2003, 0))] [] ⟨⟨rfl, _, rfl, rfl, rfl, rfl, id, rowsCv_eq rfl (allFree_map recV_free), rowsZ_map recV_len⟩, trivial⟩ trivial rfl rfl ?_
       exact ⟨(.free rfl), (.ref rfl), (.free rfl), (.free rfl), (.free rfl), trivial⟩
     ·rintro ⟨j3_0, h⟩
      replace h : s_SortRecords_j3 v0_0 v0_1 e0 v2_0 (s_SortRecords_l0 rs0) (s_SortRecords_l2 v0_0 v0_1 e0 (s_SortRecords_l0 rs0) f2) j3_0 = some r0 := h
      unfold s_SortRecords_j3 at h
      show Tri _ _ _ (inv_s_SortRecords_3 p0 v0_0 v0_1 v2_0 j3_0)
      refine tri_cond rfl (fun c2 => ?_) (fun c2 => ?_)
      ·replace h := cond_t h c2
       refine tri_skip ?_
       refine tri_block ?_
       refine tri_region ?_
       refine m1 ?_
       refine grd_elim h fun g3 h => ?_
       refine s_subI rfl rfl rfl rfl g3 rfl rfl rfl ?_
       refine m2 ?_
       refine rt_nil ?_
       refine Exists.intro ⟨(f2, v2_0 - 1), h⟩ (And.intro (Nat.lt_succ_self _) ?_)
       refine entX [((2003, 0), ⟨39, 6, List.map recV v0_0, false, true⟩, some (2003, 0))] [] ⟨⟨rfl, _, rfl, rfl, rfl, rfl, id, rowsCv_eq rfl (allFree_map recV_free), rowsZ_map recV_len⟩, trivial⟩ trivial rfl rfl ?_
       exact ⟨(.free rfl), (.ref rfl), (.free rfl), (.free rfl), trivial⟩
      ·replace h := cond_f h c2
       refine tri_exit ?_
       refine Exists.intro ⟨v2_0, h⟩ ?_
       refine entX [((2003, 0), ⟨39, 6, List.map recV v0_0, false, true⟩, some (2003, 0))] [] ⟨⟨rfl, _, rfl, rfl, rfl, rfl, id, rowsCv_eq rfl (allFree_map recV_free), rowsZ_map recV_len⟩, trivial⟩ trivial rfl rfl ?_
       exact ⟨(.free rfl), (.ref rfl), (.free rfl), (.free rfl), trivial⟩
   ·rintro ⟨j1_0, h⟩
    replace h : s_SortRecords_j1 v0_0 v0_1 e0 (s_SortRecords_l0 rs0) j1_0 = some r0 := h
    unfold s_SortRecords_j1 at h
    show Tri _ _ _ (inv_s_SortRecords_1 p0 v0_0 v0_1 j1_0)
    refine tri_draw mixed ?_
    refine s_buildSlice (rows' := List.map recV ([] : List Rec)) rfl rfl rfl sl24 zc39 rfl rfl rfl rfl rfl rfl rfl rfl rfl ?_
    refine m1 ?_
    refine m1 ?_
    refine grd_elim h fun g2 h => ?_
    refine s_sliceZ (a := ((0 : Nat) : Int)) (b := j1_0) rfl rfl rfl sl24 rfl rfl ⟨_, rfl⟩ g2 rfl rfl rfl ?_
    refine grd_elim h fun g3 h => ?_
    refine s_appL rfl rfl rfl sl24 zc39 rfl rfl rfl rfl rfl rfl (src_refV rfl (by first | omega | (simp only [List.length_set]; omega))) g3 rfl rfl ?_
    refine m1 ?_
    refine m1 ?_
    refine s_indexF (i := v0_1) rfl rfl rfl sl24 (get_ltM hx0) rfl rfl rfl ?_
    refine s_loadFR rfl rfl (rowG hx0) ty39 rfl rfl rfl ?_
    refine s_buildSlice (rows' := List.map recV [e0]) rfl rfl rfl sl24 zc39 rfl rfl rfl rfl rfl rfl rfl rfl rfl ?_
    refine grd_elim h fun g4 h => ?_
    refine s_appL rfl rfl rfl sl24 zc39 rfl rfl rfl rfl rfl rfl (src_refL rfl rfl) g4 rfl rfl ?_
    refine m1 ?_
    refine m1 ?_
    refine grd_elim h fun g5 h => ?_
    refine s_sliceZ (a := j1_0) (b := (v0_0.length : Int)) rfl rfl rfl sl24 rfl ⟨_, rfl⟩ rfl g5 rfl rfl rfl ?_
    refine grd_elim h fun g6 h => ?_
    refine s_appL rfl rfl rfl sl24 zc39 rfl rfl rfl rfl rfl rfl (src_refV rfl (by first | omega | (simp only [List.length_set]; omega))) g6 rfl rfl ?_
    refine m2 ?_
    refine rt_nil ⟨by kernel_rfl, ?_⟩
    refine tri_region ?_
    refine m1 ?_
    refine s_inc (a := v0_1) (b := 1) rfl rfl rfl rfl (by have := get_lt hx0; have := hl0; omega) rfl rfl rfl ?_
    refine m2 ?_
    refine rt_nil ?_
    refine Exists.intro ⟨(rs0, ((([] : List Rec) ++ ((v0_0.drop (0 + ((0 : Nat) : Int).toNat)).take (j1_0.toNat - ((0 : Nat) : Int).toNat))) ++ [e0]) ++ ((v0_0.drop (0 + j1_0.toNat)).take ((v0_0.length : Int).toNat - j1_0.toNat)), (v0_1 + 1)), hn0, h⟩ (And.intro (Nat.lt_succ_self _) ?_)
    refine entX [((2003, 0), ⟨39, 6, List.map recV (((([] : List Rec) ++ ((v0_0.drop (0 + ((0 : Nat) : Int).toNat)).take (j1_0.toNat - ((0 : Nat) : Int).toNat))) ++ [e0]) ++ ((v0_0.drop (0 + j1_0.toNat)).take ((v0_0.length : Int).toNat - j1_0.toNat))), false, true⟩, some (45, 0))] [] ⟨⟨rfl, _, rfl, rfl, rfl, rfl, id, rowsCv_eq rfl (allFree_map recV_free), rowsZ_map recV_len⟩, trivial⟩ trivial rfl rfl ?_
    exact ⟨(.free rfl), (.ref rfl), (.free rfl), trivial⟩
  ·have he := drop_f hd0 c1; subst he
   rw [s_SortRecords_l0] at h
   refine tri_exit ?_
   refine tri_sr ?_
   refine m1 ?_
   refine m2 ?_
   refine rt_nil ?_
   refine tri_ret ?_
   have e0 := (some1 h); subst e0
   exact endY (v' := .ref (2000, 0) 0 v0_0.length) [((2000, 0), ⟨39, 6, List.map recV v0_0, false, true⟩, some (2003, 0))] [] (rvC (resTmp rfl) rvN) ⟨⟨rfl, _, rfl, rfl, rfl, rfl, id, rowsCv_eq rfl (allFree_map recV_free), rowsZ_map recV_len⟩, trivial⟩ trivial rfl rfl (by kernel_rfl) (by simp only [V.mat, V.mat1, V.mat0, matL, matT, List.length_map] <;> rfl) (.ref rfl)

/- spec.l7Copy -/

set_option maxRecDepth 4000 in
set_option maxHeartbeats 800000 in
theorem ws_l7Copy (p0 : List Rec) (r0 : List Rec) (h : s_l7Copy p0 = some r0) : Runs Tryd.prog 165 [.lst 6 (List.map recV p0)] [] (.own 39 6 (List.map recV r0)) [] := by
 unfold s_l7Copy at h
 refine runsR [.tmp 2] Tryd.func165 rfl rfl rfl rfl ?_
 rw [Tryd.ntmps165]
 refine tri_sr ?_
 refine s_mv (.inr rfl) (v := .nils) rfl rfl rfl rfl ?_
 refine rt_nil ?_
 refine tri_sr ?_
 refine s_buildSlice (rows' := List.map recV ([] : List Rec)) rfl rfl rfl sl24 zc39 rfl rfl rfl rfl rfl rfl rfl rfl rfl ?_
 refine m1 ?_
 refine grd_elim h fun g1 h => ?_
 refine s_appL rfl rfl rfl sl24 zc39 rfl rfl rfl rfl rfl rfl src_lst g1 rfl rfl ?_
 refine m2 ?_
 refine rt_nil ?_
 refine tri_ret ?_
 have e0 := (some1 h); subst e0
 exact endY (v' := .ref (2000, 0) 0 ((([] : List Rec) ++ p0).length)) [((2000, 0), ⟨39, 6, List.map recV (([] : List Rec) ++ p0), false, true⟩, some (5, 0))] [] (rvC (resTmp rfl) rvN) ⟨⟨rfl, _, rfl, rfl, rfl, rfl, id, rowsCv_eq rfl (allFree_map recV_free), rowsZ_map recV_len⟩, trivial⟩ trivial rfl rfl (by kernel_rfl) (by simp only [V.mat, V.mat1, V.mat0, matL, matT, List.length_map] <;> rfl) (.ref rfl)

/- spec.WithTtl -/
def inv_s_WithTtl_0 (p1 : Int) (v0_0 : List Rec) (v0_1 : Int) : St := mkT 21 [(1, .sc (.int .i64 p1)), (5, .ref (8, 0) 0 v0_0.length), (6, .sc (.int .i64 v0_1))] [((8, 0), some ⟨39, 6, List.map recV v0_0, false, true⟩)]
set_option maxRecDepth 4000 in
set_option maxHeartbeats 800000 in
theorem ws_WithTtl (p0 : List Rec) (p1 : Int) (r0 : List Rec) (h : s_WithTtl p0 p1 = some r0) : Runs Tryd.prog 114 [.lst 6 (List.map recV p0), .sc (.int .i64 p1)] [] (.own 39 6 (List.map recV r0)) [] := by
 unfold s_WithTtl at h
 refine runsR [.tmp 4] Tryd.func114 rfl rfl rfl rfl ?_
 rw [Tryd.ntmps114]
 refine tri_sr ?_
 refine s_mv (.inr rfl) (v := .nils) rfl rfl rfl rfl ?_
 refine rt_nil ?_
 refine tri_sr ?_
 refine m1 ?_
 refine bnd1_elim h fun x1 q2 h => ?_
 refine s_callN (kb := []) (ns := []) (v := .ref (8, 0) 0 x1.length) rfl rfl cl165 (ws_l7Copy p0 x1 q2) rfl (.cons (.free rfl) .nil) trivial memNil .nil memNil rfl ⟨(allSc_map recV_sc), trivial⟩ memNil rfl (by simp only [V.mat, V.mat1, V.mat0, matL, matT, List.length_map] <;> rfl) rfl rfl rfl rfl ?_
 refine m2 ?_
 refine rt_nil ?_
 refine tri_seq ?_
 refine tri_sr ?_
 refine s_mv (.inr rfl) (v := .sc (.int .i64 0)) rfl rfl rfl rfl ?_
 refine rt_nil ?_
 refine tri_block ?_
 refine tri_loop (ι := { p : Nat × (List Rec) × Int // s_WithTtl_l0 p1 p.1 p.2.1 p.2.2 = some r0 }) (fun p => inv_s_WithTtl_0 p1 p.1.2.1 p.1.2.2) (fun p => p.1.1) ⟨(fuel0, x1, 0), h⟩ ?_ ?_
 ·skip
  refine entX [((8, 0), ⟨39, 6, List.map recV x1, false, true⟩, some (8, 0))] [] ⟨⟨rfl, _, rfl, rfl, rfl, rfl, id, rowsCv_eq rfl (allFree_map recV_free), rowsZ_map recV_len⟩, trivial⟩ trivial rfl rfl ?_
  exact ⟨(.free rfl), (.ref rfl), (.free rfl), trivial⟩
 ·rintro ⟨⟨f0, v0_0, v0_1⟩, h⟩
  replace h : s_WithTtl_l0 p1 f0 v0_0 v0_1 = some r0 := h
  cases f0 with
  | zero => cases h
  | succ f0 =>
  rw [s_WithTtl_l0] at h
  show Tri _ _ _ (inv_s_WithTtl_0 p1 v0_0 v0_1)
  refine tri_seq ?_
  refine tri_sr ?_
  refine m1 ?_
  refine m1 ?_
  refine s_len (m := v0_0.length) rfl sl24 rfl rfl rfl rfl ?_
  refine s_of (st_lss rfl rfl rfl) rfl rfl rfl rfl ?_
  refine rt_nil ?_
  refine tri_cond rfl (fun c3 => ?_) (fun c3 => ?_)
  ·replace h := cond_t h c3
   refine tri_skip ?_
   refine tri_seq ?_
   refine tri_block ?_
   refine tri_region ?_
   refine m1 ?_
   refine m1 ?_
   refine m1 ?_
   refine bnd1_elim h fun x4 q5 h => ?_
   have q5a := (idx_some q5).1; have q5b := (idx_some q5).2
   refine s_indexZ rfl rfl rfl rfl sl24 rfl q5a (get_lt q5b) rfl rfl rfl ?_
   refine s_fieldAddr rfl rfl fd39_2 rfl rfl rfl rfl ?_
   refine s_storeL (x' := Rec.mk x4.name x4.ty p1 x4.n x4.host x4.text) rfl rfl rfl q5b ty3 rfl rfl rfl rfl rfl rfl ?_
   refine rt_nil ?_
   refine tri_region ?_
   refine m1 ?_
   refine grd_elim h fun g6 h => ?_
   refine s_addI rfl rfl rfl rfl g6 rfl rfl rfl ?_
   refine m2 ?_
   refine rt_nil ?_
   refine Exists.intro ⟨(f0, v0_0.set v0_1.toNat (Rec.mk x4.name x4.ty p1 x4.n x4.host x4.text), v0_1 + 1), h⟩ (And.intro (Nat.lt_succ_self _) ?_)
   refine entX [((8, 0), ⟨39, 6, List.map recV (v0_0.set v0_1.toNat (Rec.mk x4.name x4.ty p1 x4.n x4.host x4.text)), false, true⟩, some (8, 0))] [] ⟨⟨rfl, _, rfl, rfl, rfl, rfl, id, rowsCv_eq rfl (allFree_map recV_free), rowsZ_map recV_len⟩, trivial⟩ trivial rfl rfl ?_
   exact ⟨(.free rfl), (cvRefLen rfl (by simp only [List.length_set])), (.free rfl), trivial⟩
  ·replace h := cond_f h c3
   refine tri_exit ?_
   refine tri_sr ?_
   refine m1 ?_
   refine m2 ?_
   refine rt_nil ?_
   refine tri_ret ?_
   have e0 := (some1 h); subst e0
   exact endY (v' := .ref (2000, 0) 0 v0_0.length) [((2000, 0), ⟨39, 6, List.map recV v0_0, false, true⟩, some (8, 0))] [] (rvC (resTmp rfl) rvN) ⟨⟨rfl, _, rfl, rfl, rfl, rfl, id, rowsCv_eq rfl (allFree_map recV_free), rowsZ_map recV_len⟩, trivial⟩ trivial rfl rfl (by kernel_rfl) (by simp only [V.mat, V.mat1, V.mat0, matL, matT, List.length_map] <;> rfl) (.ref rfl)

/- spec.DrawSameData -/
def inv_s_DrawSameData_0 (x3 : List Rec) (x15 : List Rec) (j0_0 : Bool) : St := mkT 32 [(5, .ref (10, 0) 0 x3.length), (6, .ref (17, 0) 0 x15.length), (24, .sc (.bool j0_0))] [((10, 0), some ⟨39, 6, List.map recV x3, false, true⟩), ((17, 0), some ⟨39, 6, List.map recV x15, false, true⟩)]
set_option maxRecDepth 4000 in
set_option maxHeartbeats 800000 in
theorem ws_DrawSameData (p0 : List Int) (r0 : List Rec) (r1 : List Rec) (h : s_DrawSameData p0 = some (r0, r1)) : Runs Tryd.prog 35 [.lst 1 (List.map byteV p0)] [] (.tup [.own 39 6 (List.map recV r0), .lst 6 (List.map recV r1)]) [] := by
 unfold s_DrawSameData at h
 refine runsR [.tmp 2, .tmp 3] Tryd.func35 rfl rfl rfl rfl ?_
 rw [Tryd.ntmps35]
 refine tri_sr ?_
 refine s_mv (.inr rfl) (v := .nils) rfl rfl rfl rfl ?_
 refine s_mv (.inr rfl) (v := .nils) rfl rfl rfl rfl ?_
 refine rt_nil ?_
 refine tri_sr ?_
 refine m1 ?_
 refine bnd1_elim h fun x1 q2 h => ?_
 refine s_callZ (kb := []) (ns := []) (v := .ptr (8, 0) 0 0) rfl rfl cl88 (ws_l1New p0 x1 q2) rfl (.cons (.free rfl) .nil) trivial memNil .nil memNil trivial rfl ⟨(allFree_one rfl), trivial⟩ memNil rfl (by simp only [V.mat, V.mat1, V.mat0, matL, matT, List.length_map] <;> rfl) rfl rfl rfl rfl ?_
 refine m2 ?_
 refine rt_nil ?_
 refine tri_sr ?_
 refine m1 ?_
 refine bnd2_elim h fun x3 x4 q5 h => ?_
 refine s_callZ (kb := []) (ns := [(8, 0)]) (v := .ref (10, 0) 0 x3.length) rfl rfl cl112 (ws_l9Near x1 x3 x4 q5) rfl (.cons (.ptrOwn rfl) .nil) ⟨⟨_, rfl, rfl⟩, trivial⟩ (memCons (allFree_one rfl) memNil) (List.nodup_cons.2 ⟨List.not_mem_nil, .nil⟩) memNil trivial rfl ⟨(allFree_map recV_free), trivial⟩ (memCons (allFree_one rfl) memNil) rfl (by simp only [V.mat, V.mat1, V.mat0, matL, matT, List.length_map] <;> rfl) rfl rfl rfl rfl ?_
 refine m2 ?_
 refine rt_nil ?_
 refine tri_seq ?_
 refine tri_sr ?_
 refine m1 ?_
 refine bnd2_elim h fun x6 x7 q8 h => ?_
 refine s_callZ (kb := []) (ns := [(8, 0)]) (v := .sc (.bool x6)) rfl rfl cl113 (ws_l1Once x4 2 x6 x7 q8) rfl (.cons (.ptrOwn rfl) (.cons (.free rfl) .nil)) ⟨⟨_, rfl, rfl⟩, trivial⟩ (memCons (allFree_one rfl) memNil) (List.nodup_cons.2 ⟨List.not_mem_nil, .nil⟩) memNil trivial rfl trivial (memCons (allFree_one rfl) memNil) rfl rfl rfl rfl rfl rfl ?_
 refine rt_nil ?_
 refine tri_cond rfl (fun c9 => ?_) (fun c9 => ?_)
 ·replace h := cond_t h c9
  refine tri_sr ?_
  refine m1 ?_
  refine bnd1_elim h fun x10 q11 h => ?_
  refine s_callN (kb := [(10, 0)]) (ns := []) (v := .ref (14, 0) 0 x10.length) rfl rfl cl115 (ws_SortRecords x3 x10 q11) rfl (.cons (lendL rfl (.head _) rfl recV_free recV_len) .nil) trivial memNil .nil (fun _ _ => List.not_mem_nil) rfl ⟨(allSc_map recV_sc), trivial⟩ memNil rfl (by simp only [V.mat, V.mat1, V.mat0, matL, matT, List.length_map] <;> rfl) rfl rfl rfl rfl ?_
  refine m1 ?_
  refine bnd2_elim h fun x12 x13 q14 h => ?_
  refine s_callZ (kb := []) (ns := [(8, 0)]) (v := .sc (.int .i64 x12)) rfl rfl cl116 (ws_l1Below x7 9 x12 x13 q14) rfl (.cons (.ptrOwn rfl) (.cons (.free rfl) .nil)) ⟨⟨_, rfl, rfl⟩, trivial⟩ (memCons (allFree_one rfl) memNil) (List.nodup_cons.2 ⟨List.not_mem_nil, .nil⟩) memNil trivial rfl trivial (memCons (allFree_one rfl) memNil) rfl rfl rfl rfl rfl rfl ?_
  refine bnd1_elim h fun x15 q16 h => ?_
  refine s_callN (kb := [(14, 0)]) (ns := []) (v := .ref (17, 0) 0 x15.length) rfl rfl cl114 (ws_WithTtl x10 x12 x15 q16) rfl (.cons (lendL rfl (.head _) rfl recV_free recV_len) (.cons (.free rfl) .nil)) trivial memNil .nil (fun _ _ => List.not_mem_nil) rfl ⟨(allSc_map recV_sc), trivial⟩ memNil rfl (by simp only [V.mat, V.mat1, V.mat0, matL, matT, List.length_map] <;> rfl) rfl rfl rfl rfl ?_
  refine m2 ?_
  refine rt_nil ?_
  refine tri_seq ?_
  refine tri_cutI (ι := { p : Bool // s_DrawSameData_j0 x3 x15 p = some (r0, r1) }) (fun p => inv_s_DrawSameData_0 x3 x15 p.1) ?_ ?_
  ·skip
   refine tri_region ?_
   refine m1 ?_
   refine s_len (m := x15.length) rfl sl24 rfl rfl rfl rfl ?_
   refine s_of (st_gtr rfl rfl rfl) rfl rfl rfl rfl ?_
   refine m1 ?_
   refine s_split (t := 21) rfl (fun b17 => ?_) (fun b17 => ?_)
   ·replace h := cond_t h b17
    refine m1 ?_
    refine bnd2_elim h fun x18 x19 q20 h => ?_
    refine s_callZ (kb := []) (ns := [(8, 0)]) (v := .sc (.bool x18)) rfl rfl cl113 (ws_l1Once x13 3 x18 x19 q20) rfl (.cons (.ptrOwn rfl) (.cons (.free rfl) .nil)) ⟨⟨_, rfl, rfl⟩, trivial⟩ (memCons (allFree_one rfl) memNil) (List.nodup_cons.2 ⟨List.not_mem_nil, .nil⟩) memNil trivial rfl trivial (memCons (allFree_one rfl) memNil) rfl rfl rfl rfl rfl rfl ?_
    refine s_pickT rfl rfl (by conv => lhs; whnf) rfl rfl rfl ?_
    refine rt_nil ?_
    refine Exists.intro ⟨x18, h⟩ ?_
    refine entX [((10, 0), ⟨39, 6, List.map recV x3, false, true⟩, some (10, 0)), ((17, 0), ⟨39, 6, List.map recV x15, false, true⟩, some (17, 0))] [] ⟨⟨rfl, _, rfl, rfl, rfl, rfl, id, rowsCv_eq rfl (allFree_map recV_free), rowsZ_map recV_len⟩, ⟨rfl, _, rfl, rfl, rfl, rfl, id, rowsCv_eq rfl (allFree_map recV_free), rowsZ_map recV_len⟩, trivial⟩ trivial rfl rfl ?_
    exact ⟨(.ref rfl), (.ref rfl), (.free rfl), trivial⟩
   ·replace h := cond_f h b17
    refine s_skip rfl rfl rfl ?_
    refine s_skip rfl rfl rfl ?_
    refine s_pickF rfl rfl (v := .sc (.bool false)) rfl rfl rfl rfl ?_
    refine rt_nil ?_
    refine Exists.intro ⟨false, h⟩ ?_
    refine entX [((10, 0), ⟨39, 6, List.map recV x3, false, true⟩, some (10, 0)), ((17, 0), ⟨39, 6, List.map recV x15, false, true⟩, some (17, 0))] [] ⟨⟨rfl, _, rfl, rfl, rfl, rfl, id, rowsCv_eq rfl (allFree_map recV_free), rowsZ_map recV_len⟩, ⟨rfl, _, rfl, rfl, rfl, rfl, id, rowsCv_eq rfl (allFree_map recV_free), rowsZ_map recV_len⟩, trivial⟩ trivial rfl rfl ?_
    exact ⟨(.ref rfl), (.ref rfl), (.free rfl), trivial⟩
  ·rintro ⟨j0_0, h⟩
   replace h : s_DrawSameData_j0 x3 x15 j0_0 = some (r0, r1) := h
   unfold s_DrawSameData_j0 at h
   show Tri _ _ _ (inv_s_DrawSameData_0 x3 x15 j0_0)
   refine tri_cond rfl (fun c17 => ?_) (fun c17 => ?_)
   ·replace h := cond_t h c17
    refine tri_region ?_
    refine m1 ?_
    refine grd_elim h fun g18 h => ?_
    refine s_sliceZ (a := 1) (b := (x15.length : Int)) rfl rfl rfl sl24 rfl ⟨_, rfl⟩ rfl g18 rfl rfl rfl ?_
    refine m2 ?_
    refine rt_nil ?_
    refine tri_sr ?_
    refine m1 ?_
    refine m1 ?_
    refine m2 ?_
    refine m2 ?_
    refine rt_nil ?_
    refine tri_ret ?_
    have e0 := (some2 h).1; have e1 := (some2 h).2; subst e0; subst e1
    exact endY (v' := .tup [.ref (2000, 100) 0 x3.length, .lst 6 (List.map recV ((x15.drop (0 + (1 : Int).toNat)).take ((x15.length : Int).toNat - (1 : Int).toNat)))]) [((2000, 100), ⟨39, 6, List.map recV x3, false, true⟩, some (10, 0))] [(17, 0)] (rvC (resTmp rfl) (rvC (resTmp rfl) rvN)) ⟨⟨rfl, _, rfl, rfl, rfl, rfl, id, rowsCv_eq rfl (allFree_map recV_free), rowsZ_map recV_len⟩, trivial⟩ ⟨⟨_, rfl, rfl⟩, trivial⟩ rfl rfl (by kernel_rfl) (by simp only [V.mat, V.mat1, V.mat0, matL, matT, List.length_map] <;> rfl) (CvL.tup (.cons (.ref rfl) (.cons (cvFrV rfl (.head _) (by first | omega | (simp only [List.length_set]; omega)) recV_free recV_len) .nil)))
   ·replace h := cond_f h c17
    refine tri_skip ?_
    refine tri_sr ?_
    refine m1 ?_
    refine m1 ?_
    refine m2 ?_
    refine m2 ?_
    refine rt_nil ?_
    refine tri_ret ?_
    have e0 := (some2 h).1; have e1 := (some2 h).2; subst e0; subst e1
    exact endY (v' := .tup [.ref (2000, 100) 0 x3.length, .lst 6 (List.map recV x15)]) [((2000, 100), ⟨39, 6, List.map recV x3, false, true⟩, some (10, 0))] [(17, 0)] (rvC (resTmp rfl) (rvC (resTmp rfl) rvN)) ⟨⟨rfl, _, rfl, rfl, rfl, rfl, id, rowsCv_eq rfl (allFree_map recV_free), rowsZ_map recV_len⟩, trivial⟩ ⟨⟨_, rfl, rfl⟩, trivial⟩ rfl rfl (by kernel_rfl) (by simp only [V.mat, V.mat1, V.mat0, matL, matT, List.length_map] <;> rfl) (CvL.tup (.cons (.ref rfl) (.cons (cvFrL rfl (.head _) rfl recV_free recV_len) .nil)))
 ·replace h := cond_f h c9
  refine tri_skip ?_
  refine tri_sr ?_
  refine m1 ?_
  refine m1 ?_
  refine bnd2_elim h fun x21 x22 q23 h => ?_
  refine s_callZ (kb := []) (ns := [(8, 0)]) (v := .ref (31, 0) 0 x21.length) rfl rfl cl112 (ws_l9Near x7 x21 x22 q23) rfl (.cons (.ptrOwn rfl) .nil) ⟨⟨_, rfl, rfl⟩, trivial⟩ (memCons (allFree_one rfl) memNil) (List.nodup_cons.2 ⟨List.not_mem_nil, .nil⟩) memNil trivial rfl ⟨(allFree_map recV_free), trivial⟩ (memCons (allFree_one rfl) memNil) rfl (by simp only [V.mat, V.mat1, V.mat0, matL, matT, List.length_map] <;> rfl) rfl rfl rfl rfl ?_
  refine m2 ?_
  refine m2 ?_
  refine rt_nil ?_
  refine tri_ret ?_
  have e0 := (some2 h).1; have e1 := (some2 h).2; subst e0; subst e1
  exact endY (v' := .tup [.ref (2000, 100) 0 x3.length, .lst 6 (List.map recV x21)]) [((2000, 100), ⟨39, 6, List.map recV x3, false, true⟩, some (10, 0))] [(31, 0)] (rvC (resTmp rfl) (rvC (resTmp rfl) rvN)) ⟨⟨rfl, _, rfl, rfl, rfl, rfl, id, rowsCv_eq rfl (allFree_map recV_free), rowsZ_map recV_len⟩, trivial⟩ ⟨⟨_, rfl, rfl⟩, trivial⟩ rfl rfl (by kernel_rfl) (by simp only [V.mat, V.mat1, V.mat0, matL, matT, List.length_map] <;> rfl) (CvL.tup (.cons (.ref rfl) (.cons (cvFrL rfl (.head _) rfl recV_free recV_len) .nil)))

/- spec.l5List -/
def inv_s_l5List_0  (v0_0 : List Int) (v0_1 : Int) (v0_2 : Int) (v0_3 : List Rec) (v0_4 : Int) : St := mkT 22 [(0, .ptr (1000, 0) 0 0), (5, .ref (2005, 0) 0 v0_3.length), (6, .sc (.int .i64 v0_4))] [((1000, 0), some ⟨136, 3, [[.lst 1 (List.map byteV v0_0), .sc (.int .i64 v0_1), .sc (.int .i64 v0_2)]], false, false⟩), ((2005, 0), some ⟨39, 6, List.map recV v0_3, false, true⟩)]
set_option maxRecDepth 4000 in
set_option maxHeartbeats 800000 in
theorem ws_l5List (p0 : Cur) (p1 : Int) (r0 : List Rec) (r1 : Cur) (h : s_l5List p0 p1 = some (r0, r1)) : Runs Tryd.prog 117 [.ptr (1000, 0) 0 0, .sc (.int .i64 p1)] [⟨136, 3, [[.lst 1 (List.map byteV p0.b), .sc (.int .i64 p0.i), .sc (.int .i64 p0.h)]], false, false⟩] (.own 39 6 (List.map recV r0)) [⟨136, 3, [[.lst 1 (List.map byteV r1.b), .sc (.int .i64 r1.i), .sc (.int .i64 r1.h)]], false, false⟩] := by
 unfold s_l5List at h
 refine runsR [.tmp 4] Tryd.func117 rfl rfl rfl rfl ?_
 rw [Tryd.ntmps117]
 refine tri_sr ?_
 refine s_mv (.inr rfl) (v := .nils) rfl rfl rfl rfl ?_
 refine rt_nil ?_
 refine tri_sr ?_
 refine s_buildSlice (rows' := List.map recV ([] : List Rec)) rfl rfl rfl sl24 zc39 rfl rfl rfl rfl rfl rfl rfl rfl rfl ?_
 refine m2 ?_
 refine rt_nil ?_
 refine tri_seq ?_
 refine tri_sr ?_
 refine m1 ?_
 refine m1 ?_
 refine grd_elim h fun g1 h => ?_
 refine s_addI rfl rfl rfl rfl g1 rfl rfl rfl ?_
 refine bnd2_elim h fun x2 x3 q4 h => ?_
 refine s_callZ (kb := []) (ns := [(1000, 0)]) (v := .sc (.int .i64 x2)) rfl rfl cl116 (ws_l1Below p0 (p1 + 1) x2 x3 q4) rfl (.cons (.ptrOwn rfl) (.cons (.free rfl) .nil)) ⟨⟨_, rfl, rfl⟩, trivial⟩ (memCons (allFree_one rfl) memNil) (List.nodup_cons.2 ⟨List.not_mem_nil, .nil⟩) memNil trivial rfl trivial (memCons (allFree_one rfl) memNil) rfl rfl rfl rfl rfl rfl ?_
 refine m2 ?_
 refine rt_nil ?_
 refine tri_block ?_
 refine tri_loop (ι := { p : Nat × (List Int) × Int × Int × (List Rec) × Int // s_l5List_l0 p.1 p.2.1 p.2.2.1 p.2.2.2.1 p.2.2.2.2.1 p.2.2.2.2.2 = some (r0, r1) }) (fun p => inv_s_l5List_0 p.1.2.1 p.1.2.2.1 p.1.2.2.2.1 p.1.2.2.2.2.1 p.1.2.2.2.2.2) (fun p => p.1.1) ⟨(fuel0, x3.b, x3.i, x3.h, ([] : List Rec), x2), h⟩ ?_ ?_
 ·skip
  refine entX [((1000, 0), ⟨136, 3, [[.lst 1 (List.map byteV x3.b), .sc (.int .i64 x3.i), .sc (.int .i64 x3.h)]], false, false⟩, some (1000, 0)), ((2005, 0), ⟨39, 6, List.map recV ([] : List Rec), false, true⟩, some (7, 0))] [] ⟨⟨rfl, _, rfl, rfl, rfl, rfl, id, rowsCv_one (.cons (.free rfl) (.cons (.free rfl) (.cons (.free rfl) .nil))), rowsZ_one rfl⟩, ⟨rfl, _, rfl, rfl, rfl, rfl, id, rowsCv_eq rfl (allFree_map recV_free), rowsZ_map recV_len⟩, trivial⟩ trivial rfl rfl ?_
  exact ⟨(.ptr rfl), (.ref rfl), (.free rfl), trivial⟩
 ·rintro ⟨⟨f0, v0_0, v0_1, v0_2, v0_3, v0_4⟩, h⟩
  replace h : s_l5List_l0 f0 v0_0 v0_1 v0_2 v0_3 v0_4 = some (r0, r1) := h
  cases f0 with
  | zero => cases h
  | succ f0 =>
  rw [s_l5List_l0] at h
  show Tri _ _ _ (inv_s_l5List_0 v0_0 v0_1 v0_2 v0_3 v0_4)
  refine tri_seq ?_
  refine tri_sr ?_
  refine m1 ?_
  refine s_of (st_gtr rfl rfl rfl) rfl rfl rfl rfl ?_
  refine rt_nil ?_
  refine tri_cond rfl (fun c5 => ?_) (fun c5 => ?_)
  ·replace h := cond_t h c5
   refine tri_skip ?_
   refine tri_seq ?_
   refine tri_block ?_
   refine tri_region ?_
   refine m1 ?_
   refine m1 ?_
   refine bnd2_elim h fun x6 x7 q8 h => ?_
   refine s_callZ (kb := []) (ns := [(1000, 0)]) (v := .agg (recV x6)) rfl rfl cl164 (ws_l5Draw (Cur.mk v0_0 v0_1 v0_2) x6 x7 q8) rfl (.cons (.ptrOwn rfl) .nil) ⟨⟨_, rfl, rfl⟩, trivial⟩ (memCons (allFree_one rfl) memNil) (List.nodup_cons.2 ⟨List.not_mem_nil, .nil⟩) memNil trivial rfl trivial (memCons (allFree_one rfl) memNil) rfl rfl rfl rfl rfl rfl ?_
   refine s_buildSlice (rows' := List.map recV [x6]) rfl rfl rfl sl24 zc39 rfl rfl rfl rfl rfl rfl rfl rfl rfl ?_
   refine grd_elim h fun g9 h => ?_
   refine s_appL rfl rfl rfl sl24 zc39 rfl rfl rfl rfl rfl rfl (src_refL rfl rfl) g9 rfl rfl ?_
   refine m2 ?_
   refine rt_nil ?_
   refine tri_region ?_
   refine m1 ?_
   refine grd_elim h fun g10 h => ?_
   refine s_subI rfl rfl rfl rfl g10 rfl rfl rfl ?_
   refine m2 ?_
   refine rt_nil ?_
   refine Exists.intro ⟨(f0, x7.b, x7.i, x7.h, v0_3 ++ [x6], v0_4 - 1), h⟩ (And.intro (Nat.lt_succ_self _) ?_)
   refine entX [((1000, 0), ⟨136, 3, [[.lst 1 (List.map byteV x7.b), .sc (.int .i64 x7.i), .sc (.int .i64 x7.h)]], false, false⟩, some (1000, 0)), ((2005, 0), ⟨39, 6, List.map recV (v0_3 ++ [x6]), false, true⟩, some (20, 0))] [] ⟨⟨rfl, _, rfl, rfl, rfl, rfl, id, rowsCv_one (.cons (.free rfl) (.cons (.free rfl) (.cons (.free rfl) .nil))), rowsZ_one rfl⟩, ⟨rfl, _, rfl, rfl, rfl, rfl, id, rowsCv_eq rfl (allFree_map recV_free), rowsZ_map recV_len⟩, trivial⟩ trivial rfl rfl ?_
   exact ⟨(.ptr rfl), (.ref rfl), (.free rfl), trivial⟩
  ·replace h := cond_f h c5
   refine tri_exit ?_
   refine tri_sr ?_
   refine m1 ?_
   refine m2 ?_
   refine rt_nil ?_
   refine tri_ret ?_
   have e0 := (some2 h).1; have e1 := (some2 h).2; subst e0; subst e1
   exact endY (v' := .ref (2000, 0) 0 v0_3.length) [((2000, 0), ⟨39, 6, List.map recV v0_3, false, true⟩, some (2005, 0)), ((1000, 0), ⟨136, 3, [[.lst 1 (List.map byteV v0_0), .sc (.int .i64 v0_1), .sc (.int .i64 v0_2)]], false, false⟩, some (1000, 0))] [] (rvC (resTmp rfl) rvN) ⟨⟨rfl, _, rfl, rfl, rfl, rfl, id, rowsCv_eq rfl (allFree_map recV_free), rowsZ_map recV_len⟩, ⟨rfl, _, rfl, rfl, rfl, rfl, id, rowsCv_one (.cons (.free rfl) (.cons (.free rfl) (.cons (.free rfl) .nil))), rowsZ_one rfl⟩, trivial⟩ trivial rfl rfl (by kernel_rfl) (by simp only [V.mat, V.mat1, V.mat0, matL, matT, List.length_map] <;> rfl) (.ref rfl)

/- spec.DrawHosts -/

set_option maxRecDepth 4000 in
set_option maxHeartbeats 800000 in
theorem ws_DrawHosts (p0 : List Int) (r0 : List Rec) (h : s_DrawHosts p0 = some r0) : Runs Tryd.prog 36 [.lst 1 (List.map byteV p0)] [] (.own 39 6 (List.map recV r0)) [] := by
 unfold s_DrawHosts at h
 refine runsR [.tmp 2] Tryd.func36 rfl rfl rfl rfl ?_
 rw [Tryd.ntmps36]
 refine tri_sr ?_
 refine s_mv (.inr rfl) (v := .nils) rfl rfl rfl rfl ?_
 refine rt_nil ?_
 refine tri_sr ?_
 refine m1 ?_
 refine bnd1_elim h fun x1 q2 h => ?_
 refine s_callZ (kb := []) (ns := []) (v := .ptr (5, 0) 0 0) rfl rfl cl88 (ws_l1New p0 x1 q2) rfl (.cons (.free rfl) .nil) trivial memNil .nil memNil trivial rfl ⟨(allFree_one rfl), trivial⟩ memNil rfl (by simp only [V.mat, V.mat1, V.mat0, matL, matT, List.length_map] <;> rfl) rfl rfl rfl rfl ?_
 refine m2 ?_
 refine rt_nil ?_
 refine tri_sr ?_
 refine m1 ?_
 refine bnd2_elim h fun x3 x4 q5 h => ?_
 refine s_callZ (kb := []) (ns := [(5, 0)]) (v := .ref (7, 0) 0 x3.length) rfl rfl cl117 (ws_l5List x1 6 x3 x4 q5) rfl (.cons (.ptrOwn rfl) (.cons (.free rfl) .nil)) ⟨⟨_, rfl, rfl⟩, trivial⟩ (memCons (allFree_one rfl) memNil) (List.nodup_cons.2 ⟨List.not_mem_nil, .nil⟩) memNil trivial rfl ⟨(allFree_map recV_free), trivial⟩ (memCons (allFree_one rfl) memNil) rfl (by simp only [V.mat, V.mat1, V.mat0, matL, matT, List.length_map] <;> rfl) rfl rfl rfl rfl ?_
 refine m2 ?_
 refine rt_nil ?_
 refine tri_ret ?_
 have e0 := (some1 h); subst e0
 exact endY (v' := .ref (2000, 0) 0 x3.length) [((2000, 0), ⟨39, 6, List.map recV x3, false, true⟩, some (7, 0))] [] (rvC (resTmp rfl) rvN) ⟨⟨rfl, _, rfl, rfl, rfl, rfl, id, rowsCv_eq rfl (allFree_map recV_free), rowsZ_map recV_len⟩, trivial⟩ trivial rfl rfl (by kernel_rfl) (by simp only [V.mat, V.mat1, V.mat0, matL, matT, List.length_map] <;> rfl) (.ref rfl)

/- spec.DrawAddrs -/

set_option maxRecDepth 4000 in
set_option maxHeartbeats 800000 in
theorem ws_DrawAddrs (p0 : List Int) (r0 : List Rec) (r1 : ByteArray) (h : s_DrawAddrs p0 = some (r0, r1)) : Runs Tryd.prog 37 [.lst 1 (List.map byteV p0)] [] (.tup [.own 39 6 (List.map recV r0), .sc (.string r1)]) [] := by
 unfold s_DrawAddrs at h
 refine runsR [.tmp 2, .tmp 3] Tryd.func37 rfl rfl rfl rfl ?_
 rw [Tryd.ntmps37]
 refine tri_sr ?_
 refine s_mv (.inr rfl) (v := .nils) rfl rfl rfl rfl ?_
 refine s_mv (.inr rfl) (v := .sc (.string (⟨#[]⟩ : ByteArray))) rfl rfl rfl rfl ?_
 refine rt_nil ?_
 refine tri_sr ?_
 refine m1 ?_
 refine bnd1_elim h fun x1 q2 h => ?_
 refine s_callZ (kb := []) (ns := []) (v := .ptr (6, 0) 0 0) rfl rfl cl88 (ws_l1New p0 x1 q2) rfl (.cons (.free rfl) .nil) trivial memNil .nil memNil trivial rfl ⟨(allFree_one rfl), trivial⟩ memNil rfl (by simp only [V.mat, V.mat1, V.mat0, matL, matT, List.length_map] <;> rfl) rfl rfl rfl rfl ?_
 refine m2 ?_
 refine rt_nil ?_
 refine tri_sr ?_
 refine m1 ?_
 refine bnd2_elim h fun x3 x4 q5 h => ?_
 refine s_callZ (kb := []) (ns := [(6, 0)]) (v := .ref (8, 0) 0 x3.length) rfl rfl cl112 (ws_l9Near x1 x3 x4 q5) rfl (.cons (.ptrOwn rfl) .nil) ⟨⟨_, rfl, rfl⟩, trivial⟩ (memCons (allFree_one rfl) memNil) (List.nodup_cons.2 ⟨List.not_mem_nil, .nil⟩) memNil trivial rfl ⟨(allFree_map recV_free), trivial⟩ (memCons (allFree_one rfl) memNil) rfl (by simp only [V.mat, V.mat1, V.mat0, matL, matT, List.length_map] <;> rfl) rfl rfl rfl rfl ?_
 refine m1 ?_
 refine s_buildSlice (rows' := List.map strV [(⟨#[101, 120, 46, 99, 111, 109]⟩ : ByteArray), (⟨#[110, 115, 46, 101, 120, 46, 99, 111, 109]⟩ : ByteArray), (⟨#[99, 111, 109]⟩ : ByteArray)]) rfl rfl rfl sl33 zc9 rfl rfl rfl rfl rfl rfl rfl rfl rfl ?_
 refine bnd2_elim h fun x6 x7 q8 h => ?_
 refine s_callZ (kb := [(10, 0)]) (ns := [(6, 0)]) (v := .sc (.string x6)) rfl rfl cl118 (ws_l1Str x4 ([(⟨#[101, 120, 46, 99, 111, 109]⟩ : ByteArray), (⟨#[110, 115, 46, 101, 120, 46, 99, 111, 109]⟩ : ByteArray), (⟨#[99, 111, 109]⟩ : ByteArray)]) x6 x7 q8) rfl (.cons (.ptrOwn rfl) (.cons (lendL rfl (.head _) rfl strV_free strV_len) .nil)) ⟨⟨_, rfl, rfl⟩, trivial⟩ (memCons (allFree_one rfl) memNil) (List.nodup_cons.2 ⟨List.not_mem_nil, .nil⟩) (by decide) ⟨⟨_, rfl, rfl⟩, trivial⟩ rfl trivial (memCons (allFree_one rfl) memNil) rfl rfl rfl rfl rfl rfl ?_
 refine m2 ?_
 refine m2 ?_
 refine rt_nil ?_
 refine tri_ret ?_
 have e0 := (some2 h).1; have e1 := (some2 h).2; subst e0; subst e1
 exact endY (v' := .tup [.ref (2000, 100) 0 x3.length, .sc (.string x6)]) [((2000, 100), ⟨39, 6, List.map recV x3, false, true⟩, some (8, 0))] [] (rvC (resTmp rfl) (rvC (resTmp rfl) rvN)) ⟨⟨rfl, _, rfl, rfl, rfl, rfl, id, rowsCv_eq rfl (allFree_map recV_free), rowsZ_map recV_len⟩, trivial⟩ trivial rfl rfl (by kernel_rfl) (by simp only [V.mat, V.mat1, V.mat0, matL, matT, List.length_map] <;> rfl) (CvL.tup (.cons (.ref rfl) (.cons (.free rfl) .nil)))

/- impl.Record] -/

set_option maxRecDepth 4000 in
set_option maxHeartbeats 800000 in
theorem wslices_Clone_Record (p0 : List Rec) (r0 : List Rec) (h : slices_Clone_Record p0 = some r0) : Runs Tryd.prog 124 [.lst 6 (List.map recV p0)] [] (.own 39 6 (List.map recV r0)) [] := by
 unfold slices_Clone_Record at h
 refine runsR [.tmp 2] Tryd.func124 rfl rfl rfl rfl ?_
 rw [Tryd.ntmps124]
 refine tri_sr ?_
 refine s_mv (.inr rfl) (v := .nils) rfl rfl rfl rfl ?_
 refine rt_nil ?_
 refine tri_seq ?_
 refine tri_seq ?_
 refine tri_isNil rfl (by conv => lhs; whnf) rfl rfl rfl rfl rfl slenL sl24 rfl rfl rfl (fun b1v b1 => ?_)
 refine tri_cond rfl (fun c2 => ?_) (fun c2 => ?_)
 ·obtain rfl : p0 = [] := List.eq_nil_of_length_eq_zero (b1 c2)
  refine tri_sr ?_
  refine s_mv (.inr rfl) (v := .nils) rfl rfl rfl rfl ?_
  refine rt_nil ?_
  refine tri_ret ?_
  replace h : some ([] : List Rec) = some r0 := by simpa [grd] using h
  have e0 := (some1 h); subst e0
  exact endY (v' := .ref (2000, 0) 0 (([] : List Rec).length)) [((2000, 0), ⟨39, 6, List.map recV ([] : List Rec), false, true⟩, none)] [] (rvC (resTmp rfl) rvN) ⟨rfl, trivial⟩ trivial rfl rfl (by kernel_rfl) (by simp only [V.mat, V.mat1, V.mat0, matL, matT, List.length_map] <;> rfl) (.nilRef rfl)
 ·skip
  refine tri_skip ?_
  refine tri_sr ?_
  refine s_buildSlice (rows' := List.map recV ([] : List Rec)) rfl rfl rfl sl24 zc39 rfl rfl rfl rfl rfl rfl rfl rfl rfl ?_
  refine m1 ?_
  refine grd_elim h fun g3 h => ?_
  refine s_appL rfl rfl rfl sl24 zc39 rfl rfl rfl rfl rfl rfl src_lst g3 rfl rfl ?_
  refine m2 ?_
  refine rt_nil ?_
  refine tri_ret ?_
  have e0 := (some1 h); subst e0
  exact endY (v' := .ref (2000, 0) 0 ((([] : List Rec) ++ p0).length)) [((2000, 0), ⟨39, 6, List.map recV (([] : List Rec) ++ p0), false, true⟩, some (7, 0))] [] (rvC (resTmp rfl) rvN) ⟨⟨rfl, _, rfl, rfl, rfl, rfl, id, rowsCv_eq rfl (allFree_map recV_free), rowsZ_map recV_len⟩, trivial⟩ trivial rfl rfl (by kernel_rfl) (by simp only [V.mat, V.mat1, V.mat0, matL, matT, List.length_map] <;> rfl) (.ref rfl)

/- impl.WithTtl -/
def inv_i_WithTtl_0 (p1 : Int) (x1 : List Rec) (v0_0 : List Rec) (v0_1 : Nat) : St := mkT 21 [(1, .sc (.int .i64 p1)), (5, .ref (8, 0) 0 v0_0.length), (10, .sc (.int .i64 (x1.length : Int))), (11, .sc (.int .i64 (v0_1 : Int)))] [((8, 0), some ⟨39, 6, List.map recV v0_0, false, true⟩)]
set_option maxRecDepth 4000 in
set_option maxHeartbeats 800000 in
theorem wi_WithTtl (p0 : List Rec) (p1 : Int) (r0 : List Rec) (h : i_WithTtl p0 p1 = some r0) : Runs Tryd.prog 46 [.lst 6 (List.map recV p0), .sc (.int .i64 p1)] [] (.own 39 6 (List.map recV r0)) [] := by
 unfold i_WithTtl at h
 refine runsR [.tmp 4] Tryd.func46 rfl rfl rfl rfl ?_
 rw [Tryd.ntmps46]
 refine tri_sr ?_
 refine s_mv (.inr rfl) (v := .nils) rfl rfl rfl rfl ?_
 refine rt_nil ?_
 refine tri_sr ?_
 refine m1 ?_
 refine bnd1_elim h fun x1 q2 h => ?_
 refine s_callN (kb := []) (ns := []) (v := .ref (8, 0) 0 x1.length) rfl rfl cl124 (wslices_Clone_Record p0 x1 q2) rfl (.cons (.free rfl) .nil) trivial memNil .nil memNil rfl ⟨(allSc_map recV_sc), trivial⟩ memNil rfl (by simp only [V.mat, V.mat1, V.mat0, matL, matT, List.length_map] <;> rfl) rfl rfl rfl rfl ?_
 refine m2 ?_
 refine rt_nil ?_
 refine tri_seq ?_
 refine tri_sr ?_
 refine m1 ?_
 refine s_len (m := x1.length) rfl sl24 rfl rfl rfl rfl ?_
 refine s_mv (.inl rfl) (v := .sc (.int .i64 0)) rfl rfl rfl rfl ?_
 refine rt_nil ?_
 refine tri_block ?_
 refine tri_ownM (8, 0) rfl (fun hl0 => ?_)
 refine tri_loop (ι := { p : (List Rec) × (List Rec) × Nat // x1.drop p.2.2 = p.1 ∧ i_WithTtl_l0 p1 p.1 p.2.1 p.2.2 = some r0 }) (fun p => inv_i_WithTtl_0 p1 x1 p.1.2.1 p.1.2.2) (fun p => p.1.1.length) ⟨(x1, x1, 0), rfl, h⟩ ?_ ?_
 ·skip
  refine entX [((8, 0), ⟨39, 6, List.map recV x1, false, true⟩, some (8, 0))] [] ⟨⟨rfl, _, rfl, rfl, rfl, rfl, id, rowsCv_eq rfl (allFree_map recV_free), rowsZ_map recV_len⟩, trivial⟩ trivial rfl rfl ?_
  exact ⟨(.free rfl), (.ref rfl), (.free rfl), (.free rfl), trivial⟩
 ·rintro ⟨⟨lrs0, v0_0, v0_1⟩, hd0, h⟩
  replace hd0 : x1.drop v0_1 = lrs0 := hd0
  replace h : i_WithTtl_l0 p1 lrs0 v0_0 v0_1 = some r0 := h
  show Tri _ _ _ (inv_i_WithTtl_0 p1 x1 v0_0 v0_1)
  refine tri_sr ?_
  refine s_of (st_lss rfl rfl rfl) rfl rfl rfl rfl ?_
  refine rt_nil ?_
  refine tri_seq ?_
  refine tri_cond rfl (fun c3 => ?_) (fun c3 => ?_)
  ·refine drop_elim hd0 c3 fun e0 rs0 he hx0 hn0 => ?_
   subst he
   rw [i_WithTtl_l0] at h
   refine tri_skip ?_
   refine tri_seq ?_
   refine tri_block ?_
   refine tri_sr ?_
   refine m1 ?_
   refine m2 ?_
   refine rt_nil ?_
   refine tri_region ?_
   refine m1 ?_
   refine m1 ?_
   refine m1 ?_
   refine bnd1_elim h fun x4 q5 h => ?_
   have q5a := (idx_some q5).1; have q5b := (idx_some q5).2
   refine s_indexZ rfl rfl rfl rfl sl24 rfl q5a (get_lt q5b) rfl rfl rfl ?_
   refine s_fieldAddr rfl rfl fd39_2 rfl rfl rfl rfl ?_
   refine s_storeL (x' := Rec.mk x4.name x4.ty p1 x4.n x4.host x4.text) rfl rfl rfl q5b ty3 rfl rfl rfl rfl rfl rfl ?_
   refine rt_nil ?_
   refine tri_region ?_
   refine s_inc (a := v0_1) (b := 1) rfl rfl rfl rfl (by have := get_lt hx0; have := hl0; omega) rfl rfl rfl ?_
   refine m1 ?_
   refine rt_nil ?_
   refine Exists.intro ⟨(rs0, v0_0.set ((v0_1 : Int).toNat) (Rec.mk x4.name x4.ty p1 x4.n x4.host x4.text), (v0_1 + 1)), hn0, h⟩ (And.intro (Nat.lt_succ_self _) ?_)
   refine entX [((8, 0), ⟨39, 6, List.map recV (v0_0.set ((v0_1 : Int).toNat) (Rec.mk x4.name x4.ty p1 x4.n x4.host x4.text)), false, true⟩, some (8, 0))] [] ⟨⟨rfl, _, rfl, rfl, rfl, rfl, id, rowsCv_eq rfl (allFree_map recV_free), rowsZ_map recV_len⟩, trivial⟩ trivial rfl rfl ?_
   exact ⟨(.free rfl), (cvRefLen rfl (by simp only [List.length_set])), (.free rfl), (.free rfl), trivial⟩
  ·have he := drop_f hd0 c3; subst he
   rw [i_WithTtl_l0] at h
   refine tri_exit ?_
   refine tri_sr ?_
   refine m1 ?_
   refine m2 ?_
   refine rt_nil ?_
   refine tri_ret ?_
   have e0 := (some1 h); subst e0
   exact endY (v' := .ref (2000, 0) 0 v0_0.length) [((2000, 0), ⟨39, 6, List.map recV v0_0, false, true⟩, some (8, 0))] [] (rvC (resTmp rfl) rvN) ⟨⟨rfl, _, rfl, rfl, rfl, rfl, id, rowsCv_eq rfl (allFree_map recV_free), rowsZ_map recV_len⟩, trivial⟩ trivial rfl rfl (by kernel_rfl) (by simp only [V.mat, V.mat1, V.mat0, matL, matT, List.length_map] <;> rfl) (.ref rfl)

/- impl.Record] -/
def inv_slices_IndexFunc_Record_0 (p0 : List Rec) (fi1 : FuncId) (cp1 : List V) (v0_0 : Nat) : St := mkT 19 [(0, .lst 6 (List.map recV p0)), (1, .fn fi1 cp1), (7, .sc (.int .i64 (p0.length : Int))), (8, .sc (.int .i64 (v0_0 : Int)))] []
set_option maxRecDepth 4000 in
set_option maxHeartbeats 800000 in
theorem wslices_IndexFunc_Record (p0 : List Rec) (fi1 : FuncId) (cp1 : List V) (hf1 : cp1.all (·.free) = true) (hb1 : callable Tryd.prog fi1 = true) (p1 : Rec → Option Bool) (hg1 : ∀ (z0 : Rec) v, p1 z0 = some v → Runs Tryd.prog fi1 ([.agg (recV z0)] ++ cp1) [] (.sc (.bool v)) []) (r0 : Int) (h : slices_IndexFunc_Record p0 p1 = some r0) : Runs Tryd.prog 152 [.lst 6 (List.map recV p0), .fn fi1 cp1] [] (.sc (.int .i64 r0)) [] := by
 unfold slices_IndexFunc_Record at h
 refine runsR [.tmp 4] Tryd.func152 rfl rfl rfl rfl ?_
 rw [Tryd.ntmps152]
 refine tri_sr ?_
 refine s_mv (.inr rfl) (v := .sc (.int .i64 0)) rfl rfl rfl rfl ?_
 refine rt_nil ?_
 refine tri_seq ?_
 refine tri_sr ?_
 refine m1 ?_
 refine s_lenL rfl sl24 rfl rfl rfl rfl ?_
 refine s_mv (.inl rfl) (v := .sc (.int .i64 0)) rfl rfl rfl rfl ?_
 refine rt_nil ?_
 refine tri_block ?_
 refine tri_lstM 0 rfl (fun hl0 => ?_)
 refine tri_loop (ι := { p : (List Rec) × Nat // p0.drop p.2 = p.1 ∧ slices_IndexFunc_Record_l0 p1 p.1 p.2 = some r0 }) (fun p => inv_slices_IndexFunc_Record_0 p0 fi1 cp1 p.1.2) (fun p => p.1.1.length) ⟨(p0, 0), rfl, h⟩ ?_ ?_
 ·skip
  refine entX [] [] trivial trivial rfl rfl ?_
  exact ⟨(.free rfl), (cvFn hf1), (.free rfl), (.free rfl), trivial⟩
 ·rintro ⟨⟨lrs0, v0_0⟩, hd0, h⟩
  replace hd0 : p0.drop v0_0 = lrs0 := hd0
  replace h : slices_IndexFunc_Record_l0 p1 lrs0 v0_0 = some r0 := h
  show Tri _ _ _ (inv_slices_IndexFunc_Record_0 p0 fi1 cp1 v0_0)
  refine tri_sr ?_
  refine s_of (st_lss rfl rfl rfl) rfl rfl rfl rfl ?_
  refine rt_nil ?_
  refine tri_seq ?_
  refine tri_cond rfl (fun c1 => ?_) (fun c1 => ?_)
  ·refine drop_elim hd0 c1 fun e0 rs0 he hx0 hn0 => ?_
   subst he
   rw [slices_IndexFunc_Record_l0] at h
   refine tri_skip ?_
   refine tri_seq ?_
   refine tri_block ?_
   refine tri_sr ?_
   refine m1 ?_
   refine m2 ?_
   refine rt_nil ?_
   refine tri_sr ?_
   refine m1 ?_
   refine m1 ?_
   refine m1 ?_
   refine s_indexF (i := v0_0) rfl rfl rfl sl24 (get_ltM hx0) rfl rfl rfl ?_
   refine s_loadFR rfl rfl (rowG hx0) ty39 rfl rfl rfl ?_
   refine bnd1_elim h fun x2 q3 h => ?_
   refine s_callN (kb := []) (ns := []) (v := .sc (.bool x2)) rfl rfl hb1 (hg1 e0 x2 q3) rfl (.cons (relAgg rfl) (argsFree hf1)) trivial memNil .nil memNil rfl trivial memNil rfl rfl rfl rfl rfl rfl ?_
   refine rt_nil ?_
   refine tri_cond rfl (fun c4 => ?_) (fun c4 => ?_)
   ·replace h := cond_t h c4
    refine tri_sr ?_
    refine m1 ?_
    refine m2 ?_
    refine rt_nil ?_
    refine tri_ret ?_
    have e0 := (some1 h); subst e0
    exact endY [] [] (rvC (resTmp rfl) rvN) trivial trivial rfl rfl rfl rfl (.free rfl)
   ·replace h := cond_f h c4
    refine tri_skip ?_
    refine tri_region ?_
    refine s_inc (a := v0_0) (b := 1) rfl rfl rfl rfl (by have := get_lt hx0; have := hl0; omega) rfl rfl rfl ?_
    refine m1 ?_
    refine rt_nil ?_
    refine Exists.intro ⟨(rs0, (v0_0 + 1)), hn0, h⟩ (And.intro (Nat.lt_succ_self _) ?_)
    refine entX [] [] trivial trivial rfl rfl ?_
    exact ⟨(.free rfl), (cvFn hf1), (.free rfl), (.free rfl), trivial⟩
  ·have he := drop_f hd0 c1; subst he
   rw [slices_IndexFunc_Record_l0] at h
   refine tri_exit ?_
   refine tri_sr ?_
   refine s_mv (.inr rfl) (v := .sc (.int .i64 (-1))) rfl rfl rfl rfl ?_
   refine rt_nil ?_
   refine tri_ret ?_
   have e0 := (some1 h); subst e0
   exact endY [] [] (rvC (resTmp rfl) rvN) trivial trivial rfl rfl rfl rfl (.free rfl)

/- impl.Record] -/

set_option maxRecDepth 4000 in
set_option maxHeartbeats 800000 in
theorem wslices_ContainsFunc_Record (p0 : List Rec) (fi1 : FuncId) (cp1 : List V) (hf1 : cp1.all (·.free) = true) (hb1 : callable Tryd.prog fi1 = true) (p1 : Rec → Option Bool) (hg1 : ∀ (z0 : Rec) v, p1 z0 = some v → Runs Tryd.prog fi1 ([.agg (recV z0)] ++ cp1) [] (.sc (.bool v)) []) (r0 : Bool) (h : slices_ContainsFunc_Record p0 p1 = some r0) : Runs Tryd.prog 98 [.lst 6 (List.map recV p0), .fn fi1 cp1] [] (.sc (.bool r0)) [] := by
 unfold slices_ContainsFunc_Record at h
 refine runsR [.tmp 4] Tryd.func98 rfl rfl rfl rfl ?_
 rw [Tryd.ntmps98]
 refine tri_sr ?_
 refine s_mv (.inr rfl) (v := .sc (.bool false)) rfl rfl rfl rfl ?_
 refine rt_nil ?_
 refine tri_sr ?_
 refine m1 ?_
 refine m1 ?_
 refine bnd1_elim h fun x1 q2 h => ?_
 refine s_callN (kb := []) (ns := []) (v := .sc (.int .i64 x1)) rfl rfl cl152 (wslices_IndexFunc_Record p0 fi1 cp1 hf1 hb1 p1 hg1 x1 q2) rfl (.cons (.free rfl) (.cons (relFn hf1) .nil)) trivial memNil .nil memNil rfl trivial memNil rfl rfl rfl rfl rfl rfl ?_
 refine s_of (st_geq rfl rfl rfl) rfl rfl rfl rfl ?_
 refine m2 ?_
 refine rt_nil ?_
 refine tri_ret ?_
 have e0 := (some1 h); subst e0
 exact endY [] [] (rvC (resTmp rfl) rvN) trivial trivial rfl rfl rfl rfl (.free rfl)

/- impl.Record] -/
def inv_slices_Index_Record_0 (p0 : List Rec) (p1 : Rec) (v0_0 : Nat) : St := mkT 19 [(0, .lst 6 (List.map recV p0)), (3, .ptr (3, 0) 0 0), (7, .sc (.int .i64 (p0.length : Int))), (8, .sc (.int .i64 (v0_0 : Int)))] [((3, 0), some ⟨39, 6, [[.sc (.string p1.name), .sc (.int .i64 p1.ty), .sc (.int .i64 p1.ttl), .sc (.int .i64 p1.n), .sc (.string p1.host), .sc (.string p1.text)]], false, true⟩)]
set_option maxRecDepth 4000 in
set_option maxHeartbeats 800000 in
theorem wslices_Index_Record (p0 : List Rec) (p1 : Rec) (r0 : Int) (h : slices_Index_Record p0 p1 = some r0) : Runs Tryd.prog 195 [.lst 6 (List.map recV p0), .agg (recV p1)] [] (.sc (.int .i64 r0)) [] := by
 unfold slices_Index_Record at h
 refine runsR [.tmp 4] Tryd.func195 rfl rfl rfl rfl ?_
 rw [Tryd.ntmps195]
 refine tri_sr ?_
 refine s_box rfl rfl rfl rfl rfl rfl rfl ?_
 refine s_mv (.inr rfl) (v := .sc (.int .i64 0)) rfl rfl rfl rfl ?_
 refine rt_nil ?_
 refine tri_seq ?_
 refine tri_sr ?_
 refine m1 ?_
 refine s_lenL rfl sl24 rfl rfl rfl rfl ?_
 refine s_mv (.inl rfl) (v := .sc (.int .i64 0)) rfl rfl rfl rfl ?_
 refine rt_nil ?_
 refine tri_block ?_
 refine tri_lstM 0 rfl (fun hl0 => ?_)
 refine tri_loop (ι := { p : (List Rec) × Nat // p0.drop p.2 = p.1 ∧ slices_Index_Record_l0 p1 p.1 p.2 = some r0 }) (fun p => inv_slices_Index_Record_0 p0 p1 p.1.2) (fun p => p.1.1.length) ⟨(p0, 0), rfl, h⟩ ?_ ?_
 ·skip
  refine entX [((3, 0), ⟨39, 6, [[.sc (.string p1.name), .sc (.int .i64 p1.ty), .sc (.int .i64 p1.ttl), .sc (.int .i64 p1.n), .sc (.string p1.host), .sc (.string p1.text)]], false, true⟩, some (3, 0))] [] ⟨⟨rfl, _, rfl, rfl, rfl, rfl, id, rowsCv_one (.cons (.free rfl) (.cons (.free rfl) (.cons (.free rfl) (.cons (.free rfl) (.cons (.free rfl) (.cons (.free rfl) .nil)))))), rowsZ_one rfl⟩, trivial⟩ trivial rfl rfl ?_
  exact ⟨(.free rfl), (.ptr rfl), (.free rfl), (.free rfl), trivial⟩
 ·rintro ⟨⟨lrs0, v0_0⟩, hd0, h⟩
  replace hd0 : p0.drop v0_0 = lrs0 := hd0
  replace h : slices_Index_Record_l0 p1 lrs0 v0_0 = some r0 := h
  show Tri _ _ _ (inv_slices_Index_Record_0 p0 p1 v0_0)
  refine tri_sr ?_
  refine s_of (st_lss rfl rfl rfl) rfl rfl rfl rfl ?_
  refine rt_nil ?_
  refine tri_seq ?_
  refine tri_cond rfl (fun c1 => ?_) (fun c1 => ?_)
  ·refine drop_elim hd0 c1 fun e0 rs0 he hx0 hn0 => ?_
   subst he
   rw [slices_Index_Record_l0] at h
   refine tri_skip ?_
   refine tri_seq ?_
   refine tri_block ?_
   refine tri_sr ?_
   refine m1 ?_
   refine m2 ?_
   refine rt_nil ?_
   refine tri_seq ?_
   refine tri_draw mixed ?_
   refine s_loadR rfl rfl rfl rfl ty39 rfl rfl rfl ?_
   refine m1 ?_
   refine m1 ?_
   refine s_indexF (i := v0_0) rfl rfl rfl sl24 (get_ltM hx0) rfl rfl rfl ?_
   refine s_loadFR rfl rfl (rowG hx0) ty39 rfl rfl rfl ?_
   refine s_eqStruct (r' := (decide (p1.name = e0.name) && (decide (p1.ty = e0.ty) && (decide (p1.ttl = e0.ttl) && (decide (p1.n = e0.n) && (decide (p1.host = e0.host) && (decide (p1.text = e0.text) && true))))))) rfl rfl rfl fk39 rfl rfl rfl rfl rfl ?_
   refine rt_nil ⟨by kernel_rfl, ?_⟩
   refine tri_cond rfl (fun c2 => ?_) (fun c2 => ?_)
   ·replace h := cond_t h c2
    refine tri_sr ?_
    refine m1 ?_
    refine m2 ?_
    refine rt_nil ?_
    refine tri_ret ?_
    have e0 := (some1 h); subst e0
    exact endY [] [] (rvC (resTmp rfl) rvN) trivial trivial rfl rfl rfl rfl (.free rfl)
   ·replace h := cond_f h c2
    refine tri_skip ?_
    refine tri_region ?_
    refine s_inc (a := v0_0) (b := 1) rfl rfl rfl rfl (by have := get_lt hx0; have := hl0; omega) rfl rfl rfl ?_
    refine m1 ?_
    refine rt_nil ?_
    refine Exists.intro ⟨(rs0, (v0_0 + 1)), hn0, h⟩ (And.intro (Nat.lt_succ_self _) ?_)
    refine entX [((3, 0), ⟨39, 6, [[.sc (.string p1.name), .sc (.int .i64 p1.ty), .sc (.int .i64 p1.ttl), .sc (.int .i64 p1.n), .sc (.string p1.host), .sc (.string p1.text)]], false, true⟩, some (3, 0))] [] ⟨⟨rfl, _, rfl, rfl, rfl, rfl, id, rowsCv_one (.cons (.free rfl) (.cons (.free rfl) (.cons (.free rfl) (.cons (.free rfl) (.cons (.free rfl) (.cons (.free rfl) .nil)))))), rowsZ_one rfl⟩, trivial⟩ trivial rfl rfl ?_
    exact ⟨(.free rfl), (.ptr rfl), (.free rfl), (.free rfl), trivial⟩
  ·have he := drop_f hd0 c1; subst he
   rw [slices_Index_Record_l0] at h
   refine tri_exit ?_
   refine tri_sr ?_
   refine s_mv (.inr rfl) (v := .sc (.int .i64 (-1))) rfl rfl rfl rfl ?_
   refine rt_nil ?_
   refine tri_ret ?_
   have e0 := (some1 h); subst e0
   exact endY [] [] (rvC (resTmp rfl) rvN) trivial trivial rfl rfl rfl rfl (.free rfl)

/- impl.Record] -/

set_option maxRecDepth 4000 in
set_option maxHeartbeats 800000 in
theorem wslices_Contains_Record (p0 : List Rec) (p1 : Rec) (r0 : Bool) (h : slices_Contains_Record p0 p1 = some r0) : Runs Tryd.prog 169 [.lst 6 (List.map recV p0), .agg (recV p1)] [] (.sc (.bool r0)) [] := by
 unfold slices_Contains_Record at h
 refine runsR [.tmp 4] Tryd.func169 rfl rfl rfl rfl ?_
 rw [Tryd.ntmps169]
 refine tri_sr ?_
 refine s_box rfl rfl rfl rfl rfl rfl rfl ?_
 refine s_mv (.inr rfl) (v := .sc (.bool false)) rfl rfl rfl rfl ?_
 refine rt_nil ?_
 refine tri_sr ?_
 refine m1 ?_
 refine s_loadR rfl rfl rfl rfl ty39 rfl rfl rfl ?_
 refine bnd1_elim h fun x1 q2 h => ?_
 refine s_callN (kb := []) (ns := []) (v := .sc (.int .i64 x1)) rfl rfl cl195 (wslices_Index_Record p0 p1 x1 q2) rfl (.cons (.free rfl) (.cons (relAgg rfl) .nil)) trivial memNil .nil memNil rfl trivial memNil rfl rfl rfl rfl rfl rfl ?_
 refine s_of (st_geq rfl rfl rfl) rfl rfl rfl rfl ?_
 refine m2 ?_
 refine rt_nil ?_
 refine tri_ret ?_
 have e0 := (some1 h); subst e0
 exact endY [] [] (rvC (resTmp rfl) rvN) trivial trivial rfl rfl rfl rfl (.free rfl)

/- impl.within$1 -/

set_option maxRecDepth 4000 in
set_option maxHeartbeats 800000 in
theorem wi_within_1 (p0 : Rec) (p1 : List Rec) (r0 : Bool) (h : i_within_1 p0 p1 = some r0) : Runs Tryd.prog 168 [.agg (recV p0), .lptr 1 [[.lst 6 (List.map recV p1)]] 0 0] [] (.sc (.bool r0)) [] := by
 unfold i_within_1 at h
 refine runsR [.tmp 3] Tryd.func168 rfl rfl rfl rfl ?_
 rw [Tryd.ntmps168]
 refine tri_sr ?_
 refine s_box rfl rfl rfl rfl rfl rfl rfl ?_
 refine s_mv (.inr rfl) (v := .sc (.bool false)) rfl rfl rfl rfl ?_
 refine rt_nil ?_
 refine tri_sr ?_
 refine s_loadF rfl rfl rfl ty24 rfl (.inr rfl) (by conv => lhs; whnf) rfl rfl rfl ?_
 refine s_loadR rfl rfl rfl rfl ty39 rfl rfl rfl ?_
 refine bnd1_elim h fun x1 q2 h => ?_
 refine s_callN (kb := []) (ns := []) (v := .sc (.bool x1)) rfl rfl cl169 (wslices_Contains_Record p1 p0 x1 q2) rfl (.cons (.free rfl) (.cons (relAgg rfl) .nil)) trivial memNil .nil memNil rfl trivial memNil rfl rfl rfl rfl rfl rfl ?_
 refine s_of (st_not rfl rfl) rfl rfl rfl rfl ?_
 refine m2 ?_
 refine rt_nil ?_
 refine tri_ret ?_
 have e0 := (some1 h); subst e0
 exact endY [] [] (rvC (resTmp rfl) rvN) trivial trivial rfl rfl rfl rfl (.free rfl)

/- impl.within -/

set_option maxRecDepth 4000 in
set_option maxHeartbeats 800000 in
theorem wi_within (p0 : List Rec) (p1 : List Rec) (r0 : Bool) (h : i_within p0 p1 = some r0) : Runs Tryd.prog 119 [.lst 6 (List.map recV p0), .lst 6 (List.map recV p1)] [] (.sc (.bool r0)) [] := by
 unfold i_within at h
 refine runsR [.tmp 4] Tryd.func119 rfl rfl rfl rfl ?_
 rw [Tryd.ntmps119]
 refine tri_sr ?_
 refine s_mv (.inr rfl) (v := .sc (.bool false)) rfl rfl rfl rfl ?_
 refine rt_nil ?_
 refine tri_sr ?_
 refine m1 ?_
 refine bnd1_elim h fun x1 q2 h => ?_
 refine s_callN (kb := []) (ns := []) (v := .ref (8, 0) 0 x1.length) rfl rfl cl46 (wi_WithTtl p0 0 x1 q2) rfl (.cons (.free rfl) (.cons (.free rfl) .nil)) trivial memNil .nil memNil rfl ⟨(allSc_map recV_sc), trivial⟩ memNil rfl (by simp only [V.mat, V.mat1, V.mat0, matL, matT, List.length_map] <;> rfl) rfl rfl rfl rfl ?_
 refine m1 ?_
 refine bnd1_elim h fun x3 q4 h => ?_
 refine s_callN (kb := []) (ns := []) (v := .ref (10, 0) 0 x3.length) rfl rfl cl46 (wi_WithTtl p1 0 x3 q4) rfl (.cons (.free rfl) (.cons (.free rfl) .nil)) trivial memNil .nil memNil rfl ⟨(allSc_map recV_sc), trivial⟩ memNil rfl (by simp only [V.mat, V.mat1, V.mat0, matL, matT, List.length_map] <;> rfl) rfl rfl rfl rfl ?_
 refine s_alloc rfl rfl rfl zc24 rfl rfl rfl rfl rfl ?_
 refine m2 ?_
 refine s_storeB rfl rfl rfl ty24 rfl rfl rfl rfl rfl ?_
 refine rt_nil ?_
 refine tri_sr ?_
 refine m1 ?_
 refine s_makeFunc (caps := [.ptr (6, 0) 0 0]) rfl rfl rfl rfl rfl ?_
 refine bnd1_elim h fun x5 q6 h => ?_
 refine s_callN (kb := [(8, 0), (6, 0), (10, 0)]) (ns := []) (v := .sc (.bool x5)) rfl rfl cl98 (wslices_ContainsFunc_Record x1 168 ([.lptr 1 [[.lst 6 (List.map recV x3)]] 0 0]) rfl cl168 (fun a0 => i_within_1 a0 x3) (fun a0 v0 hv => wi_within_1 a0 x3 v0 hv) x5 q6) rfl (.cons (lendL rfl (.head _) rfl recV_free recV_len) (.cons (relFnL rfl (.cons (relBoxL rfl (.tail _ (.head _)) (.cons (lendL rfl (.tail _ (.tail _ (.head _))) rfl recV_free recV_len) .nil) rfl rfl) .nil)) .nil)) trivial memNil .nil (fun _ _ => List.not_mem_nil) rfl trivial memNil rfl rfl rfl rfl rfl rfl ?_
 refine s_of (st_not rfl rfl) rfl rfl rfl rfl ?_
 refine m2 ?_
 refine rt_nil ?_
 refine tri_ret ?_
 have e0 := (some1 h); subst e0
 exact endY [] [] (rvC (resTmp rfl) rvN) trivial trivial rfl rfl rfl rfl (.free rfl)

/- impl.SameData -/

set_option maxRecDepth 4000 in
set_option maxHeartbeats 800000 in
theorem wi_SameData (p0 : List Rec) (p1 : List Rec) (r0 : Bool) (h : i_SameData p0 p1 = some r0) : Runs Tryd.prog 38 [.lst 6 (List.map recV p0), .lst 6 (List.map recV p1)] [] (.sc (.bool r0)) [] := by
 unfold i_SameData at h
 refine runsR [.tmp 4] Tryd.func38 rfl rfl rfl rfl ?_
 rw [Tryd.ntmps38]
 refine tri_sr ?_
 refine s_mv (.inr rfl) (v := .sc (.bool false)) rfl rfl rfl rfl ?_
 refine rt_nil ?_
 refine tri_sr ?_
 refine m1 ?_
 refine m1 ?_
 refine bnd1_elim h fun x1 q2 h => ?_
 refine s_callN (kb := []) (ns := []) (v := .sc (.bool x1)) rfl rfl cl119 (wi_within p0 p1 x1 q2) rfl (.cons (.free rfl) (.cons (.free rfl) .nil)) trivial memNil .nil memNil rfl trivial memNil rfl rfl rfl rfl rfl rfl ?_
 refine m1 ?_
 refine s_split (t := 8) rfl (fun b3 => ?_) (fun b3 => ?_)
 ·replace h := cond_t h b3
  refine m1 ?_
  refine m1 ?_
  refine bnd1_elim h fun x4 q5 h => ?_
  refine s_callN (kb := []) (ns := []) (v := .sc (.bool x4)) rfl rfl cl119 (wi_within p1 p0 x4 q5) rfl (.cons (.free rfl) (.cons (.free rfl) .nil)) trivial memNil .nil memNil rfl trivial memNil rfl rfl rfl rfl rfl rfl ?_
  refine s_pickT rfl rfl (by conv => lhs; whnf) rfl rfl rfl ?_
  refine m2 ?_
  refine rt_nil ?_
  refine tri_ret ?_
  have e0 := (some1 h); subst e0
  exact endY [] [] (rvC (resTmp rfl) rvN) trivial trivial rfl rfl rfl rfl (.free rfl)
 ·replace h := cond_f h b3
  refine s_skip rfl rfl rfl ?_
  refine s_skip rfl rfl rfl ?_
  refine s_skip rfl rfl rfl ?_
  refine s_pickF rfl rfl (v := .sc (.bool false)) rfl rfl rfl rfl ?_
  refine m2 ?_
  refine rt_nil ?_
  refine tri_ret ?_
  have e0 := (some1 h); subst e0
  exact endY [] [] (rvC (resTmp rfl) rvN) trivial trivial rfl rfl rfl rfl (.free rfl)

/- spec.l9In -/
def inv_s_l9In_0 (p0 : List Rec) (p1 : Rec) (v0_0 : Nat) : St := mkT 23 [(0, .lst 6 (List.map recV p0)), (3, .ptr (3, 0) 0 0), (5, .sc (.int .i64 (v0_0 : Int)))] [((3, 0), some ⟨39, 6, [[.sc (.string p1.name), .sc (.int .i64 p1.ty), .sc (.int .i64 p1.ttl), .sc (.int .i64 p1.n), .sc (.string p1.host), .sc (.string p1.text)]], false, true⟩)]
set_option maxRecDepth 4000 in
set_option maxHeartbeats 800000 in
theorem ws_l9In (p0 : List Rec) (p1 : Rec) (r0 : Bool) (h : s_l9In p0 p1 = some r0) : Runs Tryd.prog 120 [.lst 6 (List.map recV p0), .agg (recV p1)] [] (.sc (.bool r0)) [] := by
 unfold s_l9In at h
 refine runsR [.tmp 4] Tryd.func120 rfl rfl rfl rfl ?_
 rw [Tryd.ntmps120]
 refine tri_sr ?_
 refine s_box rfl rfl rfl rfl rfl rfl rfl ?_
 refine s_mv (.inr rfl) (v := .sc (.bool false)) rfl rfl rfl rfl ?_
 refine rt_nil ?_
 refine tri_seq ?_
 refine tri_sr ?_
 refine s_mv (.inr rfl) (v := .sc (.int .i64 0)) rfl rfl rfl rfl ?_
 refine rt_nil ?_
 refine tri_block ?_
 refine tri_lstM 0 rfl (fun hl0 => ?_)
 refine tri_loop (ι := { p : (List Rec) × Nat // p0.drop p.2 = p.1 ∧ s_l9In_l0 p1 p.1 p.2 = some r0 }) (fun p => inv_s_l9In_0 p0 p1 p.1.2) (fun p => p.1.1.length) ⟨(p0, 0), rfl, h⟩ ?_ ?_
 ·skip
  refine entX [((3, 0), ⟨39, 6, [[.sc (.string p1.name), .sc (.int .i64 p1.ty), .sc (.int .i64 p1.ttl), .sc (.int .i64 p1.n), .sc (.string p1.host), .sc (.string p1.text)]], false, true⟩, some (3, 0))] [] ⟨⟨rfl, _, rfl, rfl, rfl, rfl, id, rowsCv_one (.cons (.free rfl) (.cons (.free rfl) (.cons (.free rfl) (.cons (.free rfl) (.cons (.free rfl) (.cons (.free rfl) .nil)))))), rowsZ_one rfl⟩, trivial⟩ trivial rfl rfl ?_
  exact ⟨(.free rfl), (.ptr rfl), (.free rfl), trivial⟩
 ·rintro ⟨⟨lrs0, v0_0⟩, hd0, h⟩
  replace hd0 : p0.drop v0_0 = lrs0 := hd0
  replace h : s_l9In_l0 p1 lrs0 v0_0 = some r0 := h
  show Tri _ _ _ (inv_s_l9In_0 p0 p1 v0_0)
  refine tri_seq ?_
  refine tri_sr ?_
  refine m1 ?_
  refine m1 ?_
  refine s_lenL rfl sl24 rfl rfl rfl rfl ?_
  refine s_of (st_lss rfl rfl rfl) rfl rfl rfl rfl ?_
  refine rt_nil ?_
  refine tri_cond rfl (fun c1 => ?_) (fun c1 => ?_)
  ·refine drop_elim hd0 c1 fun e0 rs0 he hx0 hn0 => ?_
   subst he
   rw [s_l9In_l0] at h
   refine tri_skip ?_
   refine tri_seq ?_
   refine tri_block ?_
   refine tri_sr ?_
   refine m1 ?_
   refine m1 ?_
   refine s_indexF (i := v0_0) rfl rfl rfl sl24 (get_ltM hx0) rfl rfl rfl ?_
   refine s_loadFR rfl rfl (rowG hx0) ty39 rfl rfl rfl ?_
   refine s_alloc rfl rfl rfl zc39 rfl rfl rfl rfl rfl ?_
   refine s_storeB rfl rfl rfl ty39 rfl rfl rfl rfl rfl ?_
   refine rt_nil ?_
   refine tri_sr ?_
   refine s_fieldAddr rfl rfl fd39_2 rfl rfl rfl rfl ?_
   refine s_load rfl rfl rfl rfl ty3 rfl (.inr rfl) (by conv => lhs; whnf) rfl rfl rfl ?_
   refine s_fieldAddr rfl rfl fd39_2 rfl rfl rfl rfl ?_
   refine s_store (rows' := [[.sc (.string e0.name), .sc (.int .i64 e0.ty), .sc (.int .i64 p1.ttl), .sc (.int .i64 e0.n), .sc (.string e0.host), .sc (.string e0.text)]]) rfl rfl rfl rfl ty3 rfl rfl rfl rfl rfl rfl ?_
   refine rt_nil ?_
   refine tri_sr ?_
   refine s_loadR rfl rfl rfl rfl ty39 rfl rfl rfl ?_
   refine s_loadR rfl rfl rfl rfl ty39 rfl rfl rfl ?_
   refine s_eqStruct (r' := (decide (e0.name = p1.name) && (decide (e0.ty = p1.ty) && (decide (p1.ttl = p1.ttl) && (decide (e0.n = p1.n) && (decide (e0.host = p1.host) && (decide (e0.text = p1.text) && true))))))) rfl rfl rfl fk39 rfl rfl rfl rfl rfl ?_
   refine rt_nil ?_
   refine tri_cond rfl (fun c2 => ?_) (fun c2 => ?_)
   ·replace h := cond_t h c2
    refine tri_sr ?_
    refine s_mv (.inr rfl) (v := .sc (.bool true)) rfl rfl rfl rfl ?_
    refine rt_nil ?_
    refine tri_ret ?_
    have e0 := (some1 h); subst e0
    exact endY [] [] (rvC (resTmp rfl) rvN) trivial trivial rfl rfl rfl rfl (.free rfl)
   ·replace h := cond_f h c2
    refine tri_skip ?_
    refine tri_region ?_
    refine m1 ?_
    refine s_inc (a := v0_0) (b := 1) rfl rfl rfl rfl (by have := get_lt hx0; have := hl0; omega) rfl rfl rfl ?_
    refine m2 ?_
    refine rt_nil ?_
    refine Exists.intro ⟨(rs0, (v0_0 + 1)), hn0, h⟩ (And.intro (Nat.lt_succ_self _) ?_)
    refine entX [((3, 0), ⟨39, 6, [[.sc (.string p1.name), .sc (.int .i64 p1.ty), .sc (.int .i64 p1.ttl), .sc (.int .i64 p1.n), .sc (.string p1.host), .sc (.string p1.text)]], false, true⟩, some (3, 0))] [] ⟨⟨rfl, _, rfl, rfl, rfl, rfl, id, rowsCv_one (.cons (.free rfl) (.cons (.free rfl) (.cons (.free rfl) (.cons (.free rfl) (.cons (.free rfl) (.cons (.free rfl) .nil)))))), rowsZ_one rfl⟩, trivial⟩ trivial rfl rfl ?_
    exact ⟨(.free rfl), (.ptr rfl), (.free rfl), trivial⟩
  ·have he := drop_f hd0 c1; subst he
   rw [s_l9In_l0] at h
   refine tri_exit ?_
   refine tri_sr ?_
   refine s_mv (.inr rfl) (v := .sc (.bool false)) rfl rfl rfl rfl ?_
   refine rt_nil ?_
   refine tri_ret ?_
   have e0 := (some1 h); subst e0
   exact endY [] [] (rvC (resTmp rfl) rvN) trivial trivial rfl rfl rfl rfl (.free rfl)

/- spec.SameData -/
def inv_s_SameData_2 (p0 : List Rec) (p1 : List Rec) (v2_0 : Nat) : St := mkT 33 [(0, .lst 6 (List.map recV p0)), (1, .lst 6 (List.map recV p1)), (6, .sc (.int .i64 (v2_0 : Int)))] []
def inv_s_SameData_1 (p0 : List Rec) (p1 : List Rec) (v1_0 : Nat) : St := mkT 33 [(0, .lst 6 (List.map recV p0)), (1, .lst 6 (List.map recV p1)), (5, .sc (.int .i64 (v1_0 : Int)))] []
def inv_s_SameData_0 (p0 : List Rec) (p1 : List Rec) : St := mkT 33 [(0, .lst 6 (List.map recV p0)), (1, .lst 6 (List.map recV p1))] []
set_option maxRecDepth 4000 in
set_option maxHeartbeats 800000 in
theorem ws_SameData (p0 : List Rec) (p1 : List Rec) (r0 : Bool) (h : s_SameData p0 p1 = some r0) : Runs Tryd.prog 39 [.lst 6 (List.map recV p0), .lst 6 (List.map recV p1)] [] (.sc (.bool r0)) [] := by
 unfold s_SameData at h
 refine runsR [.tmp 4] Tryd.func39 rfl rfl rfl rfl ?_
 rw [Tryd.ntmps39]
 refine tri_sr ?_
 refine s_mv (.inr rfl) (v := .sc (.bool false)) rfl rfl rfl rfl ?_
 refine rt_nil ?_
 refine tri_cutI (ι := { p : Unit // s_SameData_j0 p0 p1 = some r0 }) (fun p => inv_s_SameData_0 p0 p1) ?_ ?_
 ·skip
  refine tri_sr ?_
  refine s_mv (.inr rfl) (v := .sc (.int .i64 0)) rfl rfl rfl rfl ?_
  refine rt_nil ?_
  refine tri_block ?_
  refine tri_lstM 0 rfl (fun hl1 => ?_)
  refine tri_loop (ι := { p : (List Rec) × Nat // p0.drop p.2 = p.1 ∧ s_SameData_l1 p0 p1 p.1 p.2 = some r0 }) (fun p => inv_s_SameData_1 p0 p1 p.1.2) (fun p => p.1.1.length) ⟨(p0, 0), rfl, h⟩ ?_ ?_
  ·skip
   refine entX [] [] trivial trivial rfl rfl ?_
   exact ⟨(.free rfl), (.free rfl), (.free rfl), trivial⟩
  ·rintro ⟨⟨lrs1, v1_0⟩, hd1, h⟩
   replace hd1 : p0.drop v1_0 = lrs1 := hd1
   replace h : s_SameData_l1 p0 p1 lrs1 v1_0 = some r0 := h
   show Tri _ _ _ (inv_s_SameData_1 p0 p1 v1_0)
   refine tri_seq ?_
   refine tri_sr ?_
   refine m1 ?_
   refine m1 ?_
   refine s_lenL rfl sl24 rfl rfl rfl rfl ?_
   refine s_of (st_lss rfl rfl rfl) rfl rfl rfl rfl ?_
   refine rt_nil ?_
   refine tri_cond rfl (fun c1 => ?_) (fun c1 => ?_)
   ·refine drop_elim hd1 c1 fun e1 rs1 he hx1 hn1 => ?_
    subst he
    rw [s_SameData_l1] at h
    refine tri_skip ?_
    refine tri_seq ?_
    refine tri_block ?_
    refine tri_sr ?_
    refine m1 ?_
    refine m1 ?_
    refine m1 ?_
    refine s_indexF (i := v1_0) rfl rfl rfl sl24 (get_ltM hx1) rfl rfl rfl ?_
    refine s_loadFR rfl rfl (rowG hx1) ty39 rfl rfl rfl ?_
    refine bnd1_elim h fun x2 q3 h => ?_
    refine s_callN (kb := []) (ns := []) (v := .sc (.bool x2)) rfl rfl cl120 (ws_l9In p1 e1 x2 q3) rfl (.cons (.free rfl) (.cons (relAgg rfl) .nil)) trivial memNil .nil memNil rfl trivial memNil rfl rfl rfl rfl rfl rfl ?_
    refine s_of (st_not rfl rfl) rfl rfl rfl rfl ?_
    refine rt_nil ?_
    refine tri_cond rfl (fun c4 => ?_) (fun c4 => ?_)
    ·replace h := cond_t h c4
     refine tri_sr ?_
     refine s_mv (.inr rfl) (v := .sc (.bool false)) rfl rfl rfl rfl ?_
     refine rt_nil ?_
     refine tri_ret ?_
     have e0 := (some1 h); subst e0
     exact endY [] [] (rvC (resTmp rfl) rvN) trivial trivial rfl rfl rfl rfl (.free rfl)
    ·replace h := cond_f h c4
     refine tri_skip ?_
     refine tri_region ?_
     refine m1 ?_
     refine s_inc (a := v1_0) (b := 1) rfl rfl rfl rfl (by have := get_lt hx1; have := hl1; omega) rfl rfl rfl ?_
     refine m2 ?_
     refine rt_nil ?_
     refine Exists.intro ⟨(rs1, (v1_0 + 1)), hn1, h⟩ (And.intro (Nat.lt_succ_self _) ?_)
     refine entX [] [] trivial trivial rfl rfl ?_
     exact ⟨(.free rfl), (.free rfl), (.free rfl), trivial⟩
   ·have he := drop_f hd1 c1; subst he
    rw [s_SameData_l1] at h
    refine tri_exit ?_
    refine Exists.intro ⟨(), h⟩ ?_
    refine entX [] [] trivial trivial rfl rfl ?_
    exact ⟨(.free rfl), (.free rfl), trivial⟩
 ·rintro ⟨u, h⟩
  replace h : s_SameData_j0 p0 p1 = some r0 := h
  unfold s_SameData_j0 at h
  show Tri _ _ _ (inv_s_SameData_0 p0 p1)
  refine tri_seq ?_
  refine tri_sr ?_
  refine s_mv (.inr rfl) (v := .sc (.int .i64 0)) rfl rfl rfl rfl ?_
  refine rt_nil ?_
  refine tri_block ?_
  refine tri_lstM 1 rfl (fun hl2 => ?_)
  refine tri_loop (ι := { p : (List Rec) × Nat // p1.drop p.2 = p.1 ∧ s_SameData_l2 p0 p.1 p.2 = some r0 }) (fun p => inv_s_SameData_2 p0 p1 p.1.2) (fun p => p.1.1.length) ⟨(p1, 0), rfl, h⟩ ?_ ?_
  ·skip
   refine entX [] [] trivial trivial rfl rfl ?_
   exact ⟨(.free rfl), (.free rfl), (.free rfl), trivial⟩
  ·rintro ⟨⟨lrs2, v2_0⟩, hd2, h⟩
   replace hd2 : p1.drop v2_0 = lrs2 := hd2
   replace h : s_SameData_l2 p0 lrs2 v2_0 = some r0 := h
   show Tri _ _ _ (inv_s_SameData_2 p0 p1 v2_0)
   refine tri_seq ?_
   refine tri_sr ?_
   refine m1 ?_
   refine m1 ?_
   refine s_lenL rfl sl24 rfl rfl rfl rfl ?_
   refine s_of (st_lss rfl rfl rfl) rfl rfl rfl rfl ?_
   refine rt_nil ?_
   refine tri_cond rfl (fun c1 => ?_) (fun c1 => ?_)
   ·refine drop_elim hd2 c1 fun e2 rs2 he hx2 hn2 => ?_
    subst he
    rw [s_SameData_l2] at h
    refine tri_skip ?_
    refine tri_seq ?_
    refine tri_block ?_
    refine tri_sr ?_
    refine m1 ?_
    refine m1 ?_
    refine m1 ?_
    refine s_indexF (i := v2_0) rfl rfl rfl sl24 (get_ltM hx2) rfl rfl rfl ?_
    refine s_loadFR rfl rfl (rowG hx2) ty39 rfl rfl rfl ?_
    refine bnd1_elim h fun x2 q3 h => ?_
    refine s_callN (kb := []) (ns := []) (v := .sc (.bool x2)) rfl rfl cl120 (ws_l9In p0 e2 x2 q3) rfl (.cons (.free rfl) (.cons (relAgg rfl) .nil)) trivial memNil .nil memNil rfl trivial memNil rfl rfl rfl rfl rfl rfl ?_
    refine s_of (st_not rfl rfl) rfl rfl rfl rfl ?_
    refine rt_nil ?_
    refine tri_cond rfl (fun c4 => ?_) (fun c4 => ?_)
    ·replace h := cond_t h c4
     refine tri_sr ?_
     refine s_mv (.inr rfl) (v := .sc (.bool false)) rfl rfl rfl rfl ?_
     refine rt_nil ?_
     refine tri_ret ?_
     have e0 := (some1 h); subst e0
     exact endY [] [] (rvC (resTmp rfl) rvN) trivial trivial rfl rfl rfl rfl (.free rfl)
    ·replace h := cond_f h c4
     refine tri_skip ?_
     refine tri_region ?_
     refine m1 ?_
     refine s_inc (a := v2_0) (b := 1) rfl rfl rfl rfl (by have := get_lt hx2; have := hl2; omega) rfl rfl rfl ?_
     refine m2 ?_
     refine rt_nil ?_
     refine Exists.intro ⟨(rs2, (v2_0 + 1)), hn2, h⟩ (And.intro (Nat.lt_succ_self _) ?_)
     refine entX [] [] trivial trivial rfl rfl ?_
     exact ⟨(.free rfl), (.free rfl), (.free rfl), trivial⟩
   ·have he := drop_f hd2 c1; subst he
    rw [s_SameData_l2] at h
    refine tri_exit ?_
    refine tri_sr ?_
    refine s_mv (.inr rfl) (v := .sc (.bool true)) rfl rfl rfl rfl ?_
    refine rt_nil ?_
    refine tri_ret ?_
    have e0 := (some1 h); subst e0
    exact endY [] [] (rvC (resTmp rfl) rvN) trivial trivial rfl rfl rfl rfl (.free rfl)

/- slices.Index[[]string,string] -/
def inv_slices_Index_string_0 (p0 : List ByteArray) (p1 : ByteArray) (v0_0 : Nat) : St := mkT 19 [(0, .lst 1 (List.map strV p0)), (1, .sc (.string p1)), (7, .sc (.int .i64 (p0.length : Int))), (8, .sc (.int .i64 (v0_0 : Int)))] []
set_option maxRecDepth 4000 in
set_option maxHeartbeats 800000 in
theorem wslices_Index_string (p0 : List ByteArray) (p1 : ByteArray) (r0 : Int) (h : slices_Index_string p0 p1 = some r0) : Runs Tryd.prog 145 [.lst 1 (List.map strV p0), .sc (.string p1)] [] (.sc (.int .i64 r0)) [] := by
 unfold slices_Index_string at h
 refine runsR [.tmp 4] Tryd.func145 rfl rfl rfl rfl ?_
 rw [Tryd.ntmps145]
 refine tri_sr ?_
 refine s_mv (.inr rfl) (v := .sc (.int .i64 0)) rfl rfl rfl rfl ?_
 refine rt_nil ?_
 refine tri_seq ?_
 refine tri_sr ?_
 refine m1 ?_
 refine s_lenL rfl sl33 rfl rfl rfl rfl ?_
 refine s_mv (.inl rfl) (v := .sc (.int .i64 0)) rfl rfl rfl rfl ?_
 refine rt_nil ?_
 refine tri_block ?_
 refine tri_lstM 0 rfl (fun hl0 => ?_)
 refine tri_loop (ι := { p : (List ByteArray) × Nat // p0.drop p.2 = p.1 ∧ slices_Index_string_l0 p1 p.1 p.2 = some r0 }) (fun p => inv_slices_Index_string_0 p0 p1 p.1.2) (fun p => p.1.1.length) ⟨(p0, 0), rfl, h⟩ ?_ ?_
 ·skip
  refine entX [] [] trivial trivial rfl rfl ?_
  exact ⟨(.free rfl), (.free rfl), (.free rfl), (.free rfl), trivial⟩
 ·rintro ⟨⟨lrs0, v0_0⟩, hd0, h⟩
  replace hd0 : p0.drop v0_0 = lrs0 := hd0
  replace h : slices_Index_string_l0 p1 lrs0 v0_0 = some r0 := h
  show Tri _ _ _ (inv_slices_Index_string_0 p0 p1 v0_0)
  refine tri_sr ?_
  refine s_of (st_lss rfl rfl rfl) rfl rfl rfl rfl ?_
  refine rt_nil ?_
  refine tri_seq ?_
  refine tri_cond rfl (fun c1 => ?_) (fun c1 => ?_)
  ·refine drop_elim hd0 c1 fun e0 rs0 he hx0 hn0 => ?_
   subst he
   rw [slices_Index_string_l0] at h
   refine tri_skip ?_
   refine tri_seq ?_
   refine tri_block ?_
   refine tri_sr ?_
   refine m1 ?_
   refine m2 ?_
   refine rt_nil ?_
   refine tri_sr ?_
   refine m1 ?_
   refine m1 ?_
   refine m1 ?_
   refine s_indexF (i := v0_0) rfl rfl rfl sl33 (get_ltM hx0) rfl rfl rfl ?_
   refine s_loadF rfl rfl (rowG hx0) ty9 rfl (.inr rfl) (by conv => lhs; whnf) rfl rfl rfl ?_
   refine s_of (st_eqS rfl rfl rfl) rfl rfl rfl rfl ?_
   refine rt_nil ?_
   refine tri_cond rfl (fun c2 => ?_) (fun c2 => ?_)
   ·replace h := cond_t h c2
    refine tri_sr ?_
    refine m1 ?_
    refine m2 ?_
    refine rt_nil ?_
    refine tri_ret ?_
    have e0 := (some1 h); subst e0
    exact endY [] [] (rvC (resTmp rfl) rvN) trivial trivial rfl rfl rfl rfl (.free rfl)
   ·replace h := cond_f h c2
    refine tri_skip ?_
    refine tri_region ?_
    refine s_inc (a := v0_0) (b := 1) rfl rfl rfl rfl (by have := get_lt hx0; have := hl0; omega) rfl rfl rfl ?_
    refine m1 ?_
    refine rt_nil ?_
    refine Exists.intro ⟨(rs0, (v0_0 + 1)), hn0, h⟩ (And.intro (Nat.lt_succ_self _) ?_)
    refine entX [] [] trivial trivial rfl rfl ?_
    exact ⟨(.free rfl), (.free rfl), (.free rfl), (.free rfl), trivial⟩
  ·have he := drop_f hd0 c1; subst he
   rw [slices_Index_string_l0] at h
   refine tri_exit ?_
   refine tri_sr ?_
   refine s_mv (.inr rfl) (v := .sc (.int .i64 (-1))) rfl rfl rfl rfl ?_
   refine rt_nil ?_
   refine tri_ret ?_
   have e0 := (some1 h); subst e0
   exact endY [] [] (rvC (resTmp rfl) rvN) trivial trivial rfl rfl rfl rfl (.free rfl)

/- slices.Contains[[]string,string] -/

set_option maxRecDepth 4000 in
set_option maxHeartbeats 800000 in
theorem wslices_Contains_string (p0 : List ByteArray) (p1 : ByteArray) (r0 : Bool) (h : slices_Contains_string p0 p1 = some r0) : Runs Tryd.prog 92 [.lst 1 (List.map strV p0), .sc (.string p1)] [] (.sc (.bool r0)) [] := by
 unfold slices_Contains_string at h
 refine runsR [.tmp 4] Tryd.func92 rfl rfl rfl rfl ?_
 rw [Tryd.ntmps92]
 refine tri_sr ?_
 refine s_mv (.inr rfl) (v := .sc (.bool false)) rfl rfl rfl rfl ?_
 refine rt_nil ?_
 refine tri_sr ?_
 refine m1 ?_
 refine m1 ?_
 refine bnd1_elim h fun x1 q2 h => ?_
 refine s_callN (kb := []) (ns := []) (v := .sc (.int .i64 x1)) rfl rfl cl145 (wslices_Index_string p0 p1 x1 q2) rfl (.cons (.free rfl) (.cons (.free rfl) .nil)) trivial memNil .nil memNil rfl trivial memNil rfl rfl rfl rfl rfl rfl ?_
 refine s_of (st_geq rfl rfl rfl) rfl rfl rfl rfl ?_
 refine m2 ?_
 refine rt_nil ?_
 refine tri_ret ?_
 have e0 := (some1 h); subst e0
 exact endY [] [] (rvC (resTmp rfl) rvN) trivial trivial rfl rfl rfl rfl (.free rfl)

/- impl.Hosts -/
def inv_i_Hosts_1 (p0 : List Rec) (v0_0 : List ByteArray) (v0_1 : Nat) (e0 : Rec) (j1_0 : Bool) : St := mkT 30 [(3, .ref (2003, 0) 0 v0_0.length), (5, .ptr (5, 0) 0 0), (7, .lst 6 (List.map recV p0)), (8, .sc (.int .i64 (p0.length : Int))), (9, .sc (.int .i64 (v0_1 : Int))), (22, .sc (.bool j1_0))] [((2003, 0), some ⟨9, 1, List.map strV v0_0, false, true⟩), ((5, 0), some ⟨39, 6, [[.sc (.string e0.name), .sc (.int .i64 e0.ty), .sc (.int .i64 e0.ttl), .sc (.int .i64 e0.n), .sc (.string e0.host), .sc (.string e0.text)]], false, true⟩)]
def inv_i_Hosts_0 (p0 : List Rec) (v0_0 : List ByteArray) (v0_1 : Nat) : St := mkT 30 [(3, .ref (2003, 0) 0 v0_0.length), (7, .lst 6 (List.map recV p0)), (8, .sc (.int .i64 (p0.length : Int))), (9, .sc (.int .i64 (v0_1 : Int)))] [((2003, 0), some ⟨9, 1, List.map strV v0_0, false, true⟩)]
set_option maxRecDepth 4000 in
set_option maxHeartbeats 800000 in
theorem wi_Hosts (p0 : List Rec) (r0 : List ByteArray) (h : i_Hosts p0 = some r0) : Runs Tryd.prog 41 [.lst 6 (List.map recV p0)] [] (.own 9 1 (List.map strV r0)) [] := by
 unfold i_Hosts at h
 refine runsR [.tmp 2] Tryd.func41 rfl rfl rfl rfl ?_
 rw [Tryd.ntmps41]
 refine tri_sr ?_
 refine s_mv (.inr rfl) (v := .nils) rfl rfl rfl rfl ?_
 refine rt_nil ?_
 refine tri_sr ?_
 refine s_buildSlice (rows' := List.map strV ([] : List ByteArray)) rfl rfl rfl sl33 zc9 rfl rfl rfl rfl rfl rfl rfl rfl rfl ?_
 refine m2 ?_
 refine rt_nil ?_
 refine tri_seq ?_
 refine tri_sr ?_
 refine m1 ?_
 refine s_lenL rfl sl24 rfl rfl rfl rfl ?_
 refine s_mv (.inl rfl) (v := .sc (.int .i64 0)) rfl rfl rfl rfl ?_
 refine rt_nil ?_
 refine tri_block ?_
 refine tri_lstM 0 rfl (fun hl0 => ?_)
 refine tri_loop (ι := { p : (List Rec) × (List ByteArray) × Nat // p0.drop p.2.2 = p.1 ∧ i_Hosts_l0 p.1 p.2.1 p.2.2 = some r0 }) (fun p => inv_i_Hosts_0 p0 p.1.2.1 p.1.2.2) (fun p => p.1.1.length) ⟨(p0, ([] : List ByteArray), 0), rfl, h⟩ ?_ ?_
 ·skip
  refine entX [((2003, 0), ⟨9, 1, List.map strV ([] : List ByteArray), false, true⟩, some (6, 0))] [] ⟨⟨rfl, _, rfl, rfl, rfl, rfl, id, rowsCv_eq rfl (allFree_map strV_free), rowsZ_map strV_len⟩, trivial⟩ trivial rfl rfl ?_
  exact ⟨(.ref rfl), (.free rfl), (.free rfl), (.free rfl), trivial⟩
 ·rintro ⟨⟨lrs0, v0_0, v0_1⟩, hd0, h⟩
  replace hd0 : p0.drop v0_1 = lrs0 := hd0
  replace h : i_Hosts_l0 lrs0 v0_0 v0_1 = some r0 := h
  show Tri _ _ _ (inv_i_Hosts_0 p0 v0_0 v0_1)
  refine tri_sr ?_
  refine s_of (st_lss rfl rfl rfl) rfl rfl rfl rfl ?_
  refine rt_nil ?_
  refine tri_seq ?_
  refine tri_cond rfl (fun c1 => ?_) (fun c1 => ?_)
  ·refine drop_elim hd0 c1 fun e0 rs0 he hx0 hn0 => ?_
   subst he
   rw [i_Hosts_l0] at h
   refine tri_skip ?_
   refine tri_seq ?_
   refine tri_block ?_
   refine tri_sr ?_
   refine s_indexF (i := v0_1) rfl rfl rfl sl24 (get_ltM hx0) rfl rfl rfl ?_
   refine s_loadFR rfl rfl (rowG hx0) ty39 rfl rfl rfl ?_
   refine s_alloc rfl rfl rfl zc39 rfl rfl rfl rfl rfl ?_
   refine s_storeB rfl rfl rfl ty39 rfl rfl rfl rfl rfl ?_
   refine rt_nil ?_
   refine tri_cutI (ι := { p : Bool // i_Hosts_j1 v0_0 v0_1 e0 (i_Hosts_l0 rs0) p = some r0 }) (fun p => inv_i_Hosts_1 p0 v0_0 v0_1 e0 p.1) ?_ ?_
   ·skip
    refine tri_region ?_
    refine s_fieldAddr rfl rfl fd39_1 rfl rfl rfl rfl ?_
    refine s_load rfl rfl rfl rfl ty3 rfl (.inr rfl) (by conv => lhs; whnf) rfl rfl rfl ?_
    refine s_of (st_eqI rfl rfl rfl) rfl rfl rfl rfl ?_
    refine m1 ?_
    refine s_split (t := 16) rfl (fun b2 => ?_) (fun b2 => ?_)
    ·replace h := cond_t h b2
     refine m1 ?_
     refine s_fieldAddr rfl rfl fd39_4 rfl rfl rfl rfl ?_
     refine s_load rfl rfl rfl rfl ty9 rfl (.inr rfl) (by conv => lhs; whnf) rfl rfl rfl ?_
     refine bnd1_elim h fun x3 q4 h => ?_
     refine s_callN (kb := [(2003, 0)]) (ns := []) (v := .sc (.bool x3)) rfl rfl cl92 (wslices_Contains_string v0_0 e0.host x3 q4) rfl (.cons (lendL rfl (.head _) rfl strV_free strV_len) (.cons (.free rfl) .nil)) trivial memNil .nil (fun _ _ => List.not_mem_nil) rfl trivial memNil rfl rfl rfl rfl rfl rfl ?_
     refine s_of (st_not rfl rfl) rfl rfl rfl rfl ?_
     refine s_pickT rfl rfl (by conv => lhs; whnf) rfl rfl rfl ?_
     refine rt_nil ?_
     refine Exists.intro ⟨!x3, h⟩ ?_
     refine entX [((2003, 0), ⟨9, 1, List.map strV v0_0, false, true⟩, some (2003, 0)), ((5, 0), ⟨39, 6, [[.sc (.string e0.name), .sc (.int .i64 e0.ty), .sc (.int .i64 e0.ttl), .sc (.int .i64 e0.n), .sc (.string e0.host), .sc (.string e0.text)]], false, true⟩, some (5, 0))] [] ⟨⟨rfl, _, rfl, rfl, rfl, rfl, id, rowsCv_eq rfl (allFree_map strV_free), rowsZ_map strV_len⟩, ⟨rfl, _, rfl, rfl, rfl, rfl, id, rowsCv_one (.cons (.free rfl) (.cons (.free rfl) (.cons (.free rfl) (.cons (.free rfl) (.cons (.free rfl) (.cons (.free rfl) .nil)))))), rowsZ_one rfl⟩, trivial⟩ trivial rfl rfl ?_
     exact ⟨(.ref rfl), (.ptr rfl), (.free rfl), (.free rfl), (.free rfl), (.free rfl), trivial⟩
    ·replace h := cond_f h b2
     refine s_skip rfl rfl rfl ?_
     refine s_skip rfl rfl rfl ?_
     refine s_skip rfl rfl rfl ?_
     refine s_skip rfl rfl rfl ?_
     refine s_skip rfl rfl rfl ?_
     refine s_pickF rfl rfl (v := .sc (.bool false)) rfl rfl rfl rfl ?_
     refine rt_nil ?_
     refine Exists.intro ⟨false, h⟩ ?_
     refine entX [((2003, 0), ⟨9, 1, List.map strV v0_0, false, true⟩, some (2003, 0)), ((5, 0), ⟨39, 6, [[.sc (.string e0.name), .sc (.int .i64 e0.ty), .sc (.int .i64 e0.ttl), .sc (.int .i64 e0.n), .sc (.string e0.host), .sc (.string e0.text)]], false, true⟩, some (5, 0))] [] ⟨⟨rfl, _, rfl, rfl, rfl, rfl, id, rowsCv_eq rfl (allFree_map strV_free), rowsZ_map strV_len⟩, ⟨rfl, _, rfl, rfl, rfl, rfl, id, rowsCv_one (.cons (.free rfl) (.cons (.free rfl) (.cons (.free rfl) (.cons (.free rfl) (.cons (.free rfl) (.cons (.free rfl) .nil)))))), rowsZ_one rfl⟩, trivial⟩ trivial rfl rfl ?_
     exact ⟨(.ref rfl), (.ptr rfl), (.free rfl), (.free rfl), (.free rfl), (.free rfl), trivial⟩
   ·rintro ⟨j1_0, h⟩
    replace h : i_Hosts_j1 v0_0 v0_1 e0 (i_Hosts_l0 rs0) j1_0 = some r0 := h
    unfold i_Hosts_j1 at h
    show Tri _ _ _ (inv_i_Hosts_1 p0 v0_0 v0_1 e0 j1_0)
    refine tri_cond rfl (fun c2 => ?_) (fun c2 => ?_)
    ·replace h := cond_t h c2
     refine tri_region ?_
     refine m1 ?_
     refine s_fieldAddr rfl rfl fd39_4 rfl rfl rfl rfl ?_
     refine s_load rfl rfl rfl rfl ty9 rfl (.inr rfl) (by conv => lhs; whnf) rfl rfl rfl ?_
     refine s_buildSlice (rows' := List.map strV [e0.host]) rfl rfl rfl sl33 zc9 rfl rfl rfl rfl rfl rfl rfl rfl rfl ?_
     refine grd_elim h fun g3 h => ?_
     refine s_appL rfl rfl rfl sl33 zc9 rfl rfl rfl rfl rfl rfl (src_refL rfl rfl) g3 rfl rfl ?_
     refine m2 ?_
     refine rt_nil ?_
     refine tri_region ?_
     refine s_inc (a := v0_1) (b := 1) rfl rfl rfl rfl (by have := get_lt hx0; have := hl0; omega) rfl rfl rfl ?_
     refine m1 ?_
     refine rt_nil ?_
     refine Exists.intro ⟨(rs0, v0_0 ++ [e0.host], (v0_1 + 1)), hn0, h⟩ (And.intro (Nat.lt_succ_self _) ?_)
     refine entX [((2003, 0), ⟨9, 1, List.map strV (v0_0 ++ [e0.host]), false, true⟩, some (27, 0))] [] ⟨⟨rfl, _, rfl, rfl, rfl, rfl, id, rowsCv_eq rfl (allFree_map strV_free), rowsZ_map strV_len⟩, trivial⟩ trivial rfl rfl ?_
     exact ⟨(.ref rfl), (.free rfl), (.free rfl), (.free rfl), trivial⟩
    ·replace h := cond_f h c2
     refine tri_skip ?_
     refine tri_region ?_
     refine s_inc (a := v0_1) (b := 1) rfl rfl rfl rfl (by have := get_lt hx0; have := hl0; omega) rfl rfl rfl ?_
     refine m1 ?_
     refine rt_nil ?_
     refine Exists.intro ⟨(rs0, v0_0, (v0_1 + 1)), hn0, h⟩ (And.intro (Nat.lt_succ_self _) ?_)
     refine entX [((2003, 0), ⟨9, 1, List.map strV v0_0, false, true⟩, some (2003, 0))] [] ⟨⟨rfl, _, rfl, rfl, rfl, rfl, id, rowsCv_eq rfl (allFree_map strV_free), rowsZ_map strV_len⟩, trivial⟩ trivial rfl rfl ?_
     exact ⟨(.ref rfl), (.free rfl), (.free rfl), (.free rfl), trivial⟩
  ·have he := drop_f hd0 c1; subst he
   rw [i_Hosts_l0] at h
   refine tri_exit ?_
   refine tri_sr ?_
   refine m1 ?_
   refine m2 ?_
   refine rt_nil ?_
   refine tri_ret ?_
   have e0 := (some1 h); subst e0
   exact endY (v' := .ref (2000, 0) 0 v0_0.length) [((2000, 0), ⟨9, 1, List.map strV v0_0, false, true⟩, some (2003, 0))] [] (rvC (resTmp rfl) rvN) ⟨⟨rfl, _, rfl, rfl, rfl, rfl, id, rowsCv_eq rfl (allFree_map strV_free), rowsZ_map strV_len⟩, trivial⟩ trivial rfl rfl (by kernel_rfl) (by simp only [V.mat, V.mat1, V.mat0, matL, matT, List.length_map] <;> rfl) (.ref rfl)

/- spec.l9Has -/
def inv_s_l9Has_0 (p0 : List ByteArray) (p1 : ByteArray) (v0_0 : Nat) : St := mkT 18 [(0, .lst 1 (List.map strV p0)), (1, .sc (.string p1)), (5, .sc (.int .i64 (v0_0 : Int)))] []
set_option maxRecDepth 4000 in
set_option maxHeartbeats 800000 in
theorem ws_l9Has (p0 : List ByteArray) (p1 : ByteArray) (r0 : Bool) (h : s_l9Has p0 p1 = some r0) : Runs Tryd.prog 121 [.lst 1 (List.map strV p0), .sc (.string p1)] [] (.sc (.bool r0)) [] := by
 unfold s_l9Has at h
 refine runsR [.tmp 4] Tryd.func121 rfl rfl rfl rfl ?_
 rw [Tryd.ntmps121]
 refine tri_sr ?_
 refine s_mv (.inr rfl) (v := .sc (.bool false)) rfl rfl rfl rfl ?_
 refine rt_nil ?_
 refine tri_seq ?_
 refine tri_sr ?_
 refine s_mv (.inr rfl) (v := .sc (.int .i64 0)) rfl rfl rfl rfl ?_
 refine rt_nil ?_
 refine tri_block ?_
 refine tri_lstM 0 rfl (fun hl0 => ?_)
 refine tri_loop (ι := { p : (List ByteArray) × Nat // p0.drop p.2 = p.1 ∧ s_l9Has_l0 p1 p.1 p.2 = some r0 }) (fun p => inv_s_l9Has_0 p0 p1 p.1.2) (fun p => p.1.1.length) ⟨(p0, 0), rfl, h⟩ ?_ ?_
 ·skip
  refine entX [] [] trivial trivial rfl rfl ?_
  exact ⟨(.free rfl), (.free rfl), (.free rfl), trivial⟩
 ·rintro ⟨⟨lrs0, v0_0⟩, hd0, h⟩
  replace hd0 : p0.drop v0_0 = lrs0 := hd0
  replace h : s_l9Has_l0 p1 lrs0 v0_0 = some r0 := h
  show Tri _ _ _ (inv_s_l9Has_0 p0 p1 v0_0)
  refine tri_seq ?_
  refine tri_sr ?_
  refine m1 ?_
  refine m1 ?_
  refine s_lenL rfl sl33 rfl rfl rfl rfl ?_
  refine s_of (st_lss rfl rfl rfl) rfl rfl rfl rfl ?_
  refine rt_nil ?_
  refine tri_cond rfl (fun c1 => ?_) (fun c1 => ?_)
  ·refine drop_elim hd0 c1 fun e0 rs0 he hx0 hn0 => ?_
   subst he
   rw [s_l9Has_l0] at h
   refine tri_skip ?_
   refine tri_seq ?_
   refine tri_block ?_
   refine tri_sr ?_
   refine m1 ?_
   refine m1 ?_
   refine s_indexF (i := v0_0) rfl rfl rfl sl33 (get_ltM hx0) rfl rfl rfl ?_
   refine s_loadF rfl rfl (rowG hx0) ty9 rfl (.inr rfl) (by conv => lhs; whnf) rfl rfl rfl ?_
   refine m1 ?_
   refine s_of (st_eqS rfl rfl rfl) rfl rfl rfl rfl ?_
   refine rt_nil ?_
   refine tri_cond rfl (fun c2 => ?_) (fun c2 => ?_)
   ·replace h := cond_t h c2
    refine tri_sr ?_
    refine s_mv (.inr rfl) (v := .sc (.bool true)) rfl rfl rfl rfl ?_
    refine rt_nil ?_
    refine tri_ret ?_
    have e0 := (some1 h); subst e0
    exact endY [] [] (rvC (resTmp rfl) rvN) trivial trivial rfl rfl rfl rfl (.free rfl)
   ·replace h := cond_f h c2
    refine tri_skip ?_
    refine tri_region ?_
    refine m1 ?_
    refine s_inc (a := v0_0) (b := 1) rfl rfl rfl rfl (by have := get_lt hx0; have := hl0; omega) rfl rfl rfl ?_
    refine m2 ?_
    refine rt_nil ?_
    refine Exists.intro ⟨(rs0, (v0_0 + 1)), hn0, h⟩ (And.intro (Nat.lt_succ_self _) ?_)
    refine entX [] [] trivial trivial rfl rfl ?_
    exact ⟨(.free rfl), (.free rfl), (.free rfl), trivial⟩
  ·have he := drop_f hd0 c1; subst he
   rw [s_l9Has_l0] at h
   refine tri_exit ?_
   refine tri_sr ?_
   refine s_mv (.inr rfl) (v := .sc (.bool false)) rfl rfl rfl rfl ?_
   refine rt_nil ?_
   refine tri_ret ?_
   have e0 := (some1 h); subst e0
   exact endY [] [] (rvC (resTmp rfl) rvN) trivial trivial rfl rfl rfl rfl (.free rfl)

/- spec.Hosts -/
def inv_s_Hosts_1 (p0 : List Rec) (v0_0 : List ByteArray) (v0_1 : Nat) (j1_0 : Bool) : St := mkT 37 [(0, .lst 6 (List.map recV p0)), (3, .ref (2003, 0) 0 v0_0.length), (4, .sc (.int .i64 (v0_1 : Int))), (27, .sc (.bool j1_0))] [((2003, 0), some ⟨9, 1, List.map strV v0_0, false, true⟩)]
def inv_s_Hosts_0 (p0 : List Rec) (v0_0 : List ByteArray) (v0_1 : Nat) : St := mkT 37 [(0, .lst 6 (List.map recV p0)), (3, .ref (2003, 0) 0 v0_0.length), (4, .sc (.int .i64 (v0_1 : Int)))] [((2003, 0), some ⟨9, 1, List.map strV v0_0, false, true⟩)]
set_option maxRecDepth 4000 in
set_option maxHeartbeats 800000 in
theorem ws_Hosts (p0 : List Rec) (r0 : List ByteArray) (h : s_Hosts p0 = some r0) : Runs Tryd.prog 42 [.lst 6 (List.map recV p0)] [] (.own 9 1 (List.map strV r0)) [] := by
 unfold s_Hosts at h
 refine runsR [.tmp 2] Tryd.func42 rfl rfl rfl rfl ?_
 rw [Tryd.ntmps42]
 refine tri_sr ?_
 refine s_mv (.inr rfl) (v := .nils) rfl rfl rfl rfl ?_
 refine rt_nil ?_
 refine tri_sr ?_
 refine s_buildSlice (rows' := List.map strV ([] : List ByteArray)) rfl rfl rfl sl33 zc9 rfl rfl rfl rfl rfl rfl rfl rfl rfl ?_
 refine m2 ?_
 refine rt_nil ?_
 refine tri_seq ?_
 refine tri_sr ?_
 refine s_mv (.inr rfl) (v := .sc (.int .i64 0)) rfl rfl rfl rfl ?_
 refine rt_nil ?_
 refine tri_block ?_
 refine tri_lstM 0 rfl (fun hl0 => ?_)
 refine tri_loop (ι := { p : (List Rec) × (List ByteArray) × Nat // p0.drop p.2.2 = p.1 ∧ s_Hosts_l0 p.1 p.2.1 p.2.2 = some r0 }) (fun p => inv_s_Hosts_0 p0 p.1.2.1 p.1.2.2) (fun p => p.1.1.length) ⟨(p0, ([] : List ByteArray), 0), rfl, h⟩ ?_ ?_
 ·skip
  refine entX [((2003, 0), ⟨9, 1, List.map strV ([] : List ByteArray), false, true⟩, some (5, 0))] [] ⟨⟨rfl, _, rfl, rfl, rfl, rfl, id, rowsCv_eq rfl (allFree_map strV_free), rowsZ_map strV_len⟩, trivial⟩ trivial rfl rfl ?_
  exact ⟨(.free rfl), (.ref rfl), (.free rfl), trivial⟩
 ·rintro ⟨⟨lrs0, v0_0, v0_1⟩, hd0, h⟩
  replace hd0 : p0.drop v0_1 = lrs0 := hd0
  replace h : s_Hosts_l0 lrs0 v0_0 v0_1 = some r0 := h
  show Tri _ _ _ (inv_s_Hosts_0 p0 v0_0 v0_1)
  refine tri_seq ?_
  refine tri_sr ?_
  refine m1 ?_
  refine m1 ?_
  refine s_lenL rfl sl24 rfl rfl rfl rfl ?_
  refine s_of (st_lss rfl rfl rfl) rfl rfl rfl rfl ?_
  refine rt_nil ?_
  refine tri_cond rfl (fun c1 => ?_) (fun c1 => ?_)
  ·refine drop_elim hd0 c1 fun e0 rs0 he hx0 hn0 => ?_
   subst he
   rw [s_Hosts_l0] at h
   refine tri_skip ?_
   refine tri_seq ?_
   refine tri_block ?_
   refine tri_cutI (ι := { p : Bool // s_Hosts_j1 v0_0 v0_1 e0 (s_Hosts_l0 rs0) p = some r0 }) (fun p => inv_s_Hosts_1 p0 v0_0 v0_1 p.1) ?_ ?_
   ·skip
    refine tri_region ?_
    refine m1 ?_
    refine m1 ?_
    refine s_indexF (i := v0_1) rfl rfl rfl sl24 (get_ltM hx0) rfl rfl rfl ?_
    refine s_fieldAddrF rfl rfl fd39_1 rfl rfl rfl rfl ?_
    refine s_loadF rfl rfl (rowG hx0) ty3 rfl (.inr rfl) (by conv => lhs; whnf) rfl rfl rfl ?_
    refine s_of (st_eqI rfl rfl rfl) rfl rfl rfl rfl ?_
    refine m1 ?_
    refine s_split (t := 18) rfl (fun b2 => ?_) (fun b2 => ?_)
    ·replace h := cond_t h b2
     refine m1 ?_
     refine m1 ?_
     refine m1 ?_
     refine s_indexF (i := v0_1) rfl rfl rfl sl24 (get_ltM hx0) rfl rfl rfl ?_
     refine s_fieldAddrF rfl rfl fd39_4 rfl rfl rfl rfl ?_
     refine s_loadF rfl rfl (rowG hx0) ty9 rfl (.inr rfl) (by conv => lhs; whnf) rfl rfl rfl ?_
     refine bnd1_elim h fun x3 q4 h => ?_
     refine s_callN (kb := [(2003, 0)]) (ns := []) (v := .sc (.bool x3)) rfl rfl cl121 (ws_l9Has v0_0 e0.host x3 q4) rfl (.cons (lendL rfl (.head _) rfl strV_free strV_len) (.cons (.free rfl) .nil)) trivial memNil .nil (fun _ _ => List.not_mem_nil) rfl trivial memNil rfl rfl rfl rfl rfl rfl ?_
     refine s_of (st_not rfl rfl) rfl rfl rfl rfl ?_
     refine s_pickT rfl rfl (by conv => lhs; whnf) rfl rfl rfl ?_
     refine rt_nil ?_
     refine Exists.intro ⟨!x3, h⟩ ?_
     refine entX [((2003, 0), ⟨9, 1, List.map strV v0_0, false, true⟩, some (2003, 0))] [] ⟨⟨rfl, _, rfl, rfl, rfl, rfl, id, rowsCv_eq rfl (allFree_map strV_free), rowsZ_map strV_len⟩, trivial⟩ trivial rfl rfl ?_
     exact ⟨(.free rfl), (.ref rfl), (.free rfl), (.free rfl), trivial⟩
    ·replace h := cond_f h b2
     refine s_skip rfl rfl rfl ?_
     refine s_skip rfl rfl rfl ?_
     refine s_skip rfl rfl rfl ?_
     refine s_skip rfl rfl rfl ?_
     refine s_skip rfl rfl rfl ?_
     refine s_skip rfl rfl rfl ?_
     refine s_skip rfl rfl rfl ?_
     refine s_skip rfl rfl rfl ?_
     refine s_pickF rfl rfl (v := .sc (.bool false)) rfl rfl rfl rfl ?_
     refine rt_nil ?_
     refine Exists.intro ⟨false, h⟩ ?_
     refine entX [((2003, 0), ⟨9, 1, List.map strV v0_0, false, true⟩, some (2003, 0))] [] ⟨⟨rfl, _, rfl, rfl, rfl, rfl, id, rowsCv_eq rfl (allFree_map strV_free), rowsZ_map strV_len⟩, trivial⟩ trivial rfl rfl ?_
     exact ⟨(.free rfl), (.ref rfl), (.free rfl), (.free rfl), trivial⟩
   ·rintro ⟨j1_0, h⟩
    replace h : s_Hosts_j1 v0_0 v0_1 e0 (s_Hosts_l0 rs0) j1_0 = some r0 := h
    unfold s_Hosts_j1 at h
    show Tri _ _ _ (inv_s_Hosts_1 p0 v0_0 v0_1 j1_0)
    refine tri_cond rfl (fun c2 => ?_) (fun c2 => ?_)
    ·replace h := cond_t h c2
     refine tri_region ?_
     refine m1 ?_
     refine m1 ?_
     refine m1 ?_
     refine s_indexF (i := v0_1) rfl rfl rfl sl24 (get_ltM hx0) rfl rfl rfl ?_
     refine s_fieldAddrF rfl rfl fd39_4 rfl rfl rfl rfl ?_
     refine s_loadF rfl rfl (rowG hx0) ty9 rfl (.inr rfl) (by conv => lhs; whnf) rfl rfl rfl ?_
     refine s_buildSlice (rows' := List.map strV [e0.host]) rfl rfl rfl sl33 zc9 rfl rfl rfl rfl rfl rfl rfl rfl rfl ?_
     refine grd_elim h fun g3 h => ?_
     refine s_appL rfl rfl rfl sl33 zc9 rfl rfl rfl rfl rfl rfl (src_refL rfl rfl) g3 rfl rfl ?_
     refine m2 ?_
     refine rt_nil ?_
     refine tri_region ?_
     refine m1 ?_
     refine s_inc (a := v0_1) (b := 1) rfl rfl rfl rfl (by have := get_lt hx0; have := hl0; omega) rfl rfl rfl ?_
     refine m2 ?_
     refine rt_nil ?_
     refine Exists.intro ⟨(rs0, v0_0 ++ [e0.host], (v0_1 + 1)), hn0, h⟩ (And.intro (Nat.lt_succ_self _) ?_)
     refine entX [((2003, 0), ⟨9, 1, List.map strV (v0_0 ++ [e0.host]), false, true⟩, some (35, 0))] [] ⟨⟨rfl, _, rfl, rfl, rfl, rfl, id, rowsCv_eq rfl (allFree_map strV_free), rowsZ_map strV_len⟩, trivial⟩ trivial rfl rfl ?_
     exact ⟨(.free rfl), (.ref rfl), (.free rfl), trivial⟩
    ·replace h := cond_f h c2
     refine tri_skip ?_
     refine tri_region ?_
     refine m1 ?_
     refine s_inc (a := v0_1) (b := 1) rfl rfl rfl rfl (by have := get_lt hx0; have := hl0; omega) rfl rfl rfl ?_
     refine m2 ?_
     refine rt_nil ?_
     refine Exists.intro ⟨(rs0, v0_0, (v0_1 + 1)), hn0, h⟩ (And.intro (Nat.lt_succ_self _) ?_)
     refine entX [((2003, 0), ⟨9, 1, List.map strV v0_0, false, true⟩, some (2003, 0))] [] ⟨⟨rfl, _, rfl, rfl, rfl, rfl, id, rowsCv_eq rfl (allFree_map strV_free), rowsZ_map strV_len⟩, trivial⟩ trivial rfl rfl ?_
     exact ⟨(.free rfl), (.ref rfl), (.free rfl), trivial⟩
  ·have he := drop_f hd0 c1; subst he
   rw [s_Hosts_l0] at h
   refine tri_exit ?_
   refine tri_sr ?_
   refine m1 ?_
   refine m2 ?_
   refine rt_nil ?_
   refine tri_ret ?_
   have e0 := (some1 h); subst e0
   exact endY (v' := .ref (2000, 0) 0 v0_0.length) [((2000, 0), ⟨9, 1, List.map strV v0_0, false, true⟩, some (2003, 0))] [] (rvC (resTmp rfl) rvN) ⟨⟨rfl, _, rfl, rfl, rfl, rfl, id, rowsCv_eq rfl (allFree_map strV_free), rowsZ_map strV_len⟩, trivial⟩ trivial rfl rfl (by kernel_rfl) (by simp only [V.mat, V.mat1, V.mat0, matL, matT, List.length_map] <;> rfl) (.ref rfl)

/- laws.sameStrs -/
def inv_w_sameStrs_0 (p0 : List ByteArray) (p1 : List ByteArray) (v0_0 : Nat) : St := mkT 26 [(0, .lst 1 (List.map strV p0)), (1, .lst 1 (List.map strV p1)), (5, .sc (.int .i64 (v0_0 : Int)))] []
set_option maxRecDepth 4000 in
set_option maxHeartbeats 800000 in
theorem ww_sameStrs (p0 : List ByteArray) (p1 : List ByteArray) (r0 : Bool) (h : w_sameStrs p0 p1 = some r0) : Runs Tryd.prog 40 [.lst 1 (List.map strV p0), .lst 1 (List.map strV p1)] [] (.sc (.bool r0)) [] := by
 unfold w_sameStrs at h
 refine runsR [.tmp 4] Tryd.func40 rfl rfl rfl rfl ?_
 rw [Tryd.ntmps40]
 refine tri_sr ?_
 refine s_mv (.inr rfl) (v := .sc (.bool false)) rfl rfl rfl rfl ?_
 refine rt_nil ?_
 refine tri_seq ?_
 refine tri_sr ?_
 refine m1 ?_
 refine s_lenL rfl sl33 rfl rfl rfl rfl ?_
 refine m1 ?_
 refine s_lenL rfl sl33 rfl rfl rfl rfl ?_
 refine s_of (st_neI rfl rfl rfl) rfl rfl rfl rfl ?_
 refine rt_nil ?_
 refine tri_cond rfl (fun c1 => ?_) (fun c1 => ?_)
 ·replace h := cond_t h c1
  refine tri_sr ?_
  refine s_mv (.inr rfl) (v := .sc (.bool false)) rfl rfl rfl rfl ?_
  refine rt_nil ?_
  refine tri_ret ?_
  have e0 := (some1 h); subst e0
  exact endY [] [] (rvC (resTmp rfl) rvN) trivial trivial rfl rfl rfl rfl (.free rfl)
 ·replace h := cond_f h c1
  refine tri_skip ?_
  refine tri_seq ?_
  refine tri_sr ?_
  refine s_mv (.inr rfl) (v := .sc (.int .i64 0)) rfl rfl rfl rfl ?_
  refine rt_nil ?_
  refine tri_block ?_
  refine tri_lstM 0 rfl (fun hl0 => ?_)
  refine tri_loop (ι := { p : (List ByteArray) × Nat // p0.drop p.2 = p.1 ∧ w_sameStrs_l0 p1 p.1 p.2 = some r0 }) (fun p => inv_w_sameStrs_0 p0 p1 p.1.2) (fun p => p.1.1.length) ⟨(p0, 0), rfl, h⟩ ?_ ?_
  ·skip
   refine entX [] [] trivial trivial rfl rfl ?_
   exact ⟨(.free rfl), (.free rfl), (.free rfl), trivial⟩
  ·rintro ⟨⟨lrs0, v0_0⟩, hd0, h⟩
   replace hd0 : p0.drop v0_0 = lrs0 := hd0
   replace h : w_sameStrs_l0 p1 lrs0 v0_0 = some r0 := h
   show Tri _ _ _ (inv_w_sameStrs_0 p0 p1 v0_0)
   refine tri_seq ?_
   refine tri_sr ?_
   refine m1 ?_
   refine m1 ?_
   refine s_lenL rfl sl33 rfl rfl rfl rfl ?_
   refine s_of (st_lss rfl rfl rfl) rfl rfl rfl rfl ?_
   refine rt_nil ?_
   refine tri_cond rfl (fun c2 => ?_) (fun c2 => ?_)
   ·refine drop_elim hd0 c2 fun e0 rs0 he hx0 hn0 => ?_
    subst he
    rw [w_sameStrs_l0] at h
    refine tri_skip ?_
    refine tri_seq ?_
    refine tri_block ?_
    refine tri_seq ?_
    refine tri_draw mixed ?_
    refine m1 ?_
    refine m1 ?_
    refine s_indexF (i := v0_0) rfl rfl rfl sl33 (get_ltM hx0) rfl rfl rfl ?_
    refine s_loadF rfl rfl (rowG hx0) ty9 rfl (.inr rfl) (by conv => lhs; whnf) rfl rfl rfl ?_
    refine m1 ?_
    refine m1 ?_
    refine bnd1_elim h fun x3 q4 h => ?_
    have q4a := (idx_some q4).1; have q4b := (idx_some q4).2
    refine s_indexFZ rfl rfl rfl sl33 q4a (get_ltM q4b) rfl rfl rfl ?_
    refine s_loadF rfl rfl (rowG q4b) ty9 rfl (.inr rfl) (by conv => lhs; whnf) rfl rfl rfl ?_
    refine s_of (st_neS rfl rfl rfl) rfl rfl rfl rfl ?_
    refine rt_nil ⟨by kernel_rfl, ?_⟩
    refine tri_cond rfl (fun c5 => ?_) (fun c5 => ?_)
    ·replace h := cond_t h c5
     refine tri_sr ?_
     refine s_mv (.inr rfl) (v := .sc (.bool false)) rfl rfl rfl rfl ?_
     refine rt_nil ?_
     refine tri_ret ?_
     have e0 := (some1 h); subst e0
     exact endY [] [] (rvC (resTmp rfl) rvN) trivial trivial rfl rfl rfl rfl (.free rfl)
    ·replace h := cond_f h c5
     refine tri_skip ?_
     refine tri_region ?_
     refine m1 ?_
     refine s_inc (a := v0_0) (b := 1) rfl rfl rfl rfl (by have := get_lt hx0; have := hl0; omega) rfl rfl rfl ?_
     refine m2 ?_
     refine rt_nil ?_
     refine Exists.intro ⟨(rs0, (v0_0 + 1)), hn0, h⟩ (And.intro (Nat.lt_succ_self _) ?_)
     refine entX [] [] trivial trivial rfl rfl ?_
     exact ⟨(.free rfl), (.free rfl), (.free rfl), trivial⟩
   ·have he := drop_f hd0 c2; subst he
    rw [w_sameStrs_l0] at h
    refine tri_exit ?_
    refine tri_sr ?_
    refine s_mv (.inr rfl) (v := .sc (.bool true)) rfl rfl rfl rfl ?_
    refine rt_nil ?_
    refine tri_ret ?_
    have e0 := (some1 h); subst e0
    exact endY [] [] (rvC (resTmp rfl) rvN) trivial trivial rfl rfl rfl rfl (.free rfl)

/- slices.Index[[]int,int] -/
def inv_slices_Index_int_0 (p0 : List Int) (p1 : Int) (v0_0 : Nat) : St := mkT 19 [(0, .lst 1 (List.map intV p0)), (1, .sc (.int .i64 p1)), (7, .sc (.int .i64 (p0.length : Int))), (8, .sc (.int .i64 (v0_0 : Int)))] []
set_option maxRecDepth 4000 in
set_option maxHeartbeats 800000 in
theorem wslices_Index_int (p0 : List Int) (p1 : Int) (r0 : Int) (h : slices_Index_int p0 p1 = some r0) : Runs Tryd.prog 170 [.lst 1 (List.map intV p0), .sc (.int .i64 p1)] [] (.sc (.int .i64 r0)) [] := by
 unfold slices_Index_int at h
 refine runsR [.tmp 4] Tryd.func170 rfl rfl rfl rfl ?_
 rw [Tryd.ntmps170]
 refine tri_sr ?_
 refine s_mv (.inr rfl) (v := .sc (.int .i64 0)) rfl rfl rfl rfl ?_
 refine rt_nil ?_
 refine tri_seq ?_
 refine tri_sr ?_
 refine m1 ?_
 refine s_lenL rfl sl76 rfl rfl rfl rfl ?_
 refine s_mv (.inl rfl) (v := .sc (.int .i64 0)) rfl rfl rfl rfl ?_
 refine rt_nil ?_
 refine tri_block ?_
 refine tri_lstM 0 rfl (fun hl0 => ?_)
 refine tri_loop (ι := { p : (List Int) × Nat // p0.drop p.2 = p.1 ∧ slices_Index_int_l0 p1 p.1 p.2 = some r0 }) (fun p => inv_slices_Index_int_0 p0 p1 p.1.2) (fun p => p.1.1.length) ⟨(p0, 0), rfl, h⟩ ?_ ?_
 ·skip
  refine entX [] [] trivial trivial rfl rfl ?_
  exact ⟨(.free rfl), (.free rfl), (.free rfl), (.free rfl), trivial⟩
 ·rintro ⟨⟨lrs0, v0_0⟩, hd0, h⟩
  replace hd0 : p0.drop v0_0 = lrs0 := hd0
  replace h : slices_Index_int_l0 p1 lrs0 v0_0 = some r0 := h
  show Tri _ _ _ (inv_slices_Index_int_0 p0 p1 v0_0)
  refine tri_sr ?_
  refine s_of (st_lss rfl rfl rfl) rfl rfl rfl rfl ?_
  refine rt_nil ?_
  refine tri_seq ?_
  refine tri_cond rfl (fun c1 => ?_) (fun c1 => ?_)
  ·refine drop_elim hd0 c1 fun e0 rs0 he hx0 hn0 => ?_
   subst he
   rw [slices_Index_int_l0] at h
   refine tri_skip ?_
   refine tri_seq ?_
   refine tri_block ?_
   refine tri_sr ?_
   refine m1 ?_
   refine m2 ?_
   refine rt_nil ?_
   refine tri_sr ?_
   refine m1 ?_
   refine m1 ?_
   refine m1 ?_
   refine s_indexF (i := v0_0) rfl rfl rfl sl76 (get_ltM hx0) rfl rfl rfl ?_
   refine s_loadF rfl rfl (rowG hx0) ty3 rfl (.inr rfl) (by conv => lhs; whnf) rfl rfl rfl ?_
   refine s_of (st_eqI rfl rfl rfl) rfl rfl rfl rfl ?_
   refine rt_nil ?_
   refine tri_cond rfl (fun c2 => ?_) (fun c2 => ?_)
   ·replace h := cond_t h c2
    refine tri_sr ?_
    refine m1 ?_
    refine m2 ?_
    refine rt_nil ?_
    refine tri_ret ?_
    have e0 := (some1 h); subst e0
    exact endY [] [] (rvC (resTmp rfl) rvN) trivial trivial rfl rfl rfl rfl (.free rfl)
   ·replace h := cond_f h c2
    refine tri_skip ?_
    refine tri_region ?_
    refine s_inc (a := v0_0) (b := 1) rfl rfl rfl rfl (by have := get_lt hx0; have := hl0; omega) rfl rfl rfl ?_
    refine m1 ?_
    refine rt_nil ?_
    refine Exists.intro ⟨(rs0, (v0_0 + 1)), hn0, h⟩ (And.intro (Nat.lt_succ_self _) ?_)
    refine entX [] [] trivial trivial rfl rfl ?_
    exact ⟨(.free rfl), (.free rfl), (.free rfl), (.free rfl), trivial⟩
  ·have he := drop_f hd0 c1; subst he
   rw [slices_Index_int_l0] at h
   refine tri_exit ?_
   refine tri_sr ?_
   refine s_mv (.inr rfl) (v := .sc (.int .i64 (-1))) rfl rfl rfl rfl ?_
   refine rt_nil ?_
   refine tri_ret ?_
   have e0 := (some1 h); subst e0
   exact endY [] [] (rvC (resTmp rfl) rvN) trivial trivial rfl rfl rfl rfl (.free rfl)

/- slices.Contains[[]int,int] -/

set_option maxRecDepth 4000 in
set_option maxHeartbeats 800000 in
theorem wslices_Contains_int (p0 : List Int) (p1 : Int) (r0 : Bool) (h : slices_Contains_int p0 p1 = some r0) : Runs Tryd.prog 122 [.lst 1 (List.map intV p0), .sc (.int .i64 p1)] [] (.sc (.bool r0)) [] := by
 unfold slices_Contains_int at h
 refine runsR [.tmp 4] Tryd.func122 rfl rfl rfl rfl ?_
 rw [Tryd.ntmps122]
 refine tri_sr ?_
 refine s_mv (.inr rfl) (v := .sc (.bool false)) rfl rfl rfl rfl ?_
 refine rt_nil ?_
 refine tri_sr ?_
 refine m1 ?_
 refine m1 ?_
 refine bnd1_elim h fun x1 q2 h => ?_
 refine s_callN (kb := []) (ns := []) (v := .sc (.int .i64 x1)) rfl rfl cl170 (wslices_Index_int p0 p1 x1 q2) rfl (.cons (.free rfl) (.cons (.free rfl) .nil)) trivial memNil .nil memNil rfl trivial memNil rfl rfl rfl rfl rfl rfl ?_
 refine s_of (st_geq rfl rfl rfl) rfl rfl rfl rfl ?_
 refine m2 ?_
 refine rt_nil ?_
 refine tri_ret ?_
 have e0 := (some1 h); subst e0
 exact endY [] [] (rvC (resTmp rfl) rvN) trivial trivial rfl rfl rfl rfl (.free rfl)

end Go.Abs.M
