/- Walks of the functions that the law of FnClasses reaches: what each of them computes, where its pure function does not fail. -/
import Derived.Test.YtbkmnbpgpklojaaDoorFnsFnClasses
import Derived.Test.YtbkmnbpgpklojaaDoorChecked
import Derived.Test.YtbkmnbpgpklojaaDoorShelf
set_option linter.unusedSimpArgs false
set_option linter.unusedVariables false
namespace Go.Abs.M
open Go Go.Abs Go.Proofs
theorem cl101 : callable Tryd.prog 101 = true := by kernel_rfl
theorem cl102 : callable Tryd.prog 102 = true := by kernel_rfl
theorem cl103 : callable Tryd.prog 103 = true := by kernel_rfl
theorem cl113 : callable Tryd.prog 113 = true := by kernel_rfl
theorem cl115 : callable Tryd.prog 115 = true := by kernel_rfl
theorem cl116 : callable Tryd.prog 116 = true := by kernel_rfl
theorem cl118 : callable Tryd.prog 118 = true := by kernel_rfl
theorem cl140 : callable Tryd.prog 140 = true := by kernel_rfl
theorem cl141 : callable Tryd.prog 141 = true := by kernel_rfl
theorem cl142 : callable Tryd.prog 142 = true := by kernel_rfl
theorem cl143 : callable Tryd.prog 143 = true := by kernel_rfl
theorem cl144 : callable Tryd.prog 144 = true := by kernel_rfl
theorem cl145 : callable Tryd.prog 145 = true := by kernel_rfl
theorem cl151 : callable Tryd.prog 151 = true := by kernel_rfl
theorem cl153 : callable Tryd.prog 153 = true := by kernel_rfl
theorem cl154 : callable Tryd.prog 154 = true := by kernel_rfl
theorem cl166 : callable Tryd.prog 166 = true := by kernel_rfl
theorem cl167 : callable Tryd.prog 167 = true := by kernel_rfl
theorem cl176 : callable Tryd.prog 176 = true := by kernel_rfl
theorem cl186 : callable Tryd.prog 186 = true := by kernel_rfl
theorem cl194 : callable Tryd.prog 194 = true := by kernel_rfl
theorem cl208 : callable Tryd.prog 208 = true := by kernel_rfl
theorem cl209 : callable Tryd.prog 209 = true := by kernel_rfl
theorem cl221 : callable Tryd.prog 221 = true := by kernel_rfl
theorem cl226 : callable Tryd.prog 226 = true := by kernel_rfl
theorem cl88 : callable Tryd.prog 88 = true := by kernel_rfl
theorem cl96 : callable Tryd.prog 96 = true := by kernel_rfl
theorem cl97 : callable Tryd.prog 97 = true := by kernel_rfl
theorem fd136_0 : fldTy Tryd.prog 136 0 = some (0, 0 + 1, false) := by kernel_rfl
theorem fd136_1 : fldTy Tryd.prog 136 1 = some (1, 0 + 1, false) := by kernel_rfl
theorem fd136_2 : fldTy Tryd.prog 136 2 = some (2, 0 + 1, false) := by kernel_rfl
theorem fd39_0 : fldTy Tryd.prog 39 0 = some (0, 0 + 1, false) := by kernel_rfl
theorem fd39_1 : fldTy Tryd.prog 39 1 = some (1, 0 + 1, false) := by kernel_rfl
theorem fd39_2 : fldTy Tryd.prog 39 2 = some (2, 0 + 1, false) := by kernel_rfl
theorem fd39_3 : fldTy Tryd.prog 39 3 = some (3, 0 + 1, false) := by kernel_rfl
theorem fd39_4 : fldTy Tryd.prog 39 4 = some (4, 0 + 1, false) := by kernel_rfl
theorem fd39_5 : fldTy Tryd.prog 39 5 = some (5, 0 + 1, false) := by kernel_rfl
theorem fd45_0 : fldTy Tryd.prog 45 0 = some (0, 0 + 1, false) := by kernel_rfl
theorem fd45_1 : fldTy Tryd.prog 45 1 = some (1, 0 + 1, false) := by kernel_rfl
theorem fk39 : flatK Tryd.prog 39 = some [2, 1, 1, 1, 2, 2] := by kernel_rfl
theorem ik3 : intK Tryd.prog 3 = some .i64 := by kernel_rfl
theorem ik5 : intK Tryd.prog 5 = some .u8 := by kernel_rfl
theorem iss9 : isStr Tryd.prog 9 = true := by kernel_rfl
theorem sl22 : slTy Tryd.prog 22 = some (5, 1, 1) := by kernel_rfl
theorem sl24 : slTy Tryd.prog 24 = some (39, 6, 72) := by kernel_rfl
theorem sl33 : slTy Tryd.prog 33 = some (9, 1, 16) := by kernel_rfl
theorem sl42 : slTy Tryd.prog 42 = some (26, 2, 40) := by kernel_rfl
theorem sl43 : slTy Tryd.prog 43 = some (146, 2, 24) := by kernel_rfl
theorem sl76 : slTy Tryd.prog 76 = some (3, 1, 8) := by kernel_rfl
theorem stc136 : strTy Tryd.prog 136 = some ([(0, 1), (1, 1), (2, 1)], [.slice none 0 0, .int .i64 0, .int .i64 0]) := by kernel_rfl
theorem stc146 : strTy Tryd.prog 146 = some ([(0, 1), (1, 1)], [.int .i64 0, .string ⟨#[]⟩]) := by kernel_rfl
theorem stc26 : strTy Tryd.prog 26 = some ([(0, 1), (1, 1)], [.string ⟨#[]⟩, .slice none 0 0]) := by kernel_rfl
theorem stc28 : strTy Tryd.prog 28 = some ([(0, 1), (1, 1)], [.string ⟨#[]⟩, .int .i64 0]) := by kernel_rfl
theorem stc39 : strTy Tryd.prog 39 = some ([(0, 1), (1, 1), (2, 1), (3, 1), (4, 1), (5, 1)], [.string ⟨#[]⟩, .int .i64 0, .int .i64 0, .int .i64 0, .string ⟨#[]⟩, .string ⟨#[]⟩]) := by kernel_rfl
theorem stc45 : strTy Tryd.prog 45 = some ([(0, 1), (1, 1)], [.slice none 0 0, .slice none 0 0]) := by kernel_rfl
theorem stc50 : strTy Tryd.prog 50 = some ([(0, 1), (1, 1), (2, 1), (3, 1), (4, 1), (5, 1), (6, 1), (7, 2), (9, 1), (10, 1), (11, 1)], [.int .i64 0, .bool false, .bool false, .bool false, .bool false, .bool false, .int .i64 0, .string ⟨#[]⟩, .int .i64 0, .slice none 0 0, .slice none 0 0, .slice none 0 0]) := by kernel_rfl
theorem ty22 : tyK Tryd.prog 22 = some (false, 1) := by kernel_rfl
theorem ty28 : tyK Tryd.prog 28 = some (true, 2) := by kernel_rfl
theorem ty3 : tyK Tryd.prog 3 = some (false, 1) := by kernel_rfl
theorem ty39 : tyK Tryd.prog 39 = some (true, 6) := by kernel_rfl
theorem ty42 : tyK Tryd.prog 42 = some (false, 1) := by kernel_rfl
theorem ty43 : tyK Tryd.prog 43 = some (false, 1) := by kernel_rfl
theorem ty45 : tyK Tryd.prog 45 = some (true, 2) := by kernel_rfl
theorem ty5 : tyK Tryd.prog 5 = some (false, 1) := by kernel_rfl
theorem ty50 : tyK Tryd.prog 50 = some (true, 12) := by kernel_rfl
theorem ty9 : tyK Tryd.prog 9 = some (false, 1) := by kernel_rfl
theorem zc146 : zeroC Tryd.prog 146 = some [.int .i64 0, .string ⟨#[]⟩] := by kernel_rfl
theorem zc26 : zeroC Tryd.prog 26 = some [.string ⟨#[]⟩, .slice none 0 0] := by kernel_rfl
theorem zc28 : zeroC Tryd.prog 28 = some [.string ⟨#[]⟩, .int .i64 0] := by kernel_rfl
theorem zc3 : zeroC Tryd.prog 3 = some [.int .i64 0] := by kernel_rfl
theorem zc39 : zeroC Tryd.prog 39 = some [.string ⟨#[]⟩, .int .i64 0, .int .i64 0, .int .i64 0, .string ⟨#[]⟩, .string ⟨#[]⟩] := by kernel_rfl
theorem zc45 : zeroC Tryd.prog 45 = some [.slice none 0 0, .slice none 0 0] := by kernel_rfl
theorem zc50 : zeroC Tryd.prog 50 = some [.int .i64 0, .bool false, .bool false, .bool false, .bool false, .bool false, .int .i64 0, .string ⟨#[]⟩, .int .i64 0, .slice none 0 0, .slice none 0 0, .slice none 0 0] := by kernel_rfl
theorem zc9 : zeroC Tryd.prog 9 = some [.string ⟨#[]⟩] := by kernel_rfl
theorem mixed : Tryd.prog.follows .mixedOrders = true := by kernel_rfl
/- laws.big -/

set_option maxRecDepth 4000 in
set_option maxHeartbeats 800000 in
theorem ww_big (p0 : List Int) (r0 : Bool) (h : w_big p0 = some r0) : Runs Tryd.prog 11 [.lst 1 (List.map byteV p0)] [] (.sc (.bool r0)) [] := by
 unfold w_big at h
 refine runsR [.tmp 2] Tryd.func11 rfl rfl rfl rfl ?_
 rw [Tryd.ntmps11]
 refine tri_sr ?_
 refine s_mv (.inr rfl) (v := .sc (.bool false)) rfl rfl rfl rfl ?_
 refine rt_nil ?_
 refine tri_sr ?_
 refine m1 ?_
 refine s_lenL rfl sl22 rfl rfl rfl rfl ?_
 refine s_of (st_gtr rfl rfl rfl) rfl rfl rfl rfl ?_
 refine m2 ?_
 refine rt_nil ?_
 refine tri_ret ?_
 have e0 := (some1 h); subst e0
 exact endY [] [] (rvC (resTmp rfl) rvN) trivial trivial rfl rfl rfl rfl (.free rfl)

/- spec.l1New -/
def inv_s_l1New_2 (p0 : List Int) (v1_0 : Int) (v1_1 : Int) (j2_0 : Bool) : St := mkT 32 [(0, .lst 1 (List.map byteV p0)), (3, .sc (.int .i64 v1_0)), (4, .sc (.int .i64 v1_1)), (15, .sc (.bool j2_0))] []
def inv_s_l1New_1 (p0 : List Int) (v1_0 : Int) (v1_1 : Int) : St := mkT 32 [(0, .lst 1 (List.map byteV p0)), (3, .sc (.int .i64 v1_0)), (4, .sc (.int .i64 v1_1))] []
def inv_s_l1New_0 (p0 : List Int) (j0_0 : Int) : St := mkT 32 [(0, .lst 1 (List.map byteV p0)), (3, .sc (.int .i64 j0_0))] []
set_option maxRecDepth 4000 in
set_option maxHeartbeats 800000 in
theorem ws_l1New (p0 : List Int) (r0 : Cur) (h : s_l1New p0 = some r0) : Runs Tryd.prog 88 [.lst 1 (List.map byteV p0)] [] (.obox 136 (curV r0)) [] := by
 unfold s_l1New at h
 refine runsR [.tmp 2] Tryd.func88 rfl rfl rfl rfl ?_
 rw [Tryd.ntmps88]
 refine tri_sr ?_
 refine s_mv (.inr rfl) (v := .sc (.pointer none)) rfl rfl rfl rfl ?_
 refine rt_nil ?_
 refine tri_sr ?_
 refine m1 ?_
 refine s_lenL rfl sl22 rfl rfl rfl rfl ?_
 refine s_of (st_add rfl rfl rfl) rfl rfl rfl rfl ?_
 refine m2 ?_
 refine rt_nil ?_
 refine tri_cutI (ι := { p : Int // s_l1New_j0 p0 p = some r0 }) (fun p => inv_s_l1New_0 p0 p.1) ?_ ?_
 ·skip
  refine tri_sr ?_
  refine s_mv (.inr rfl) (v := .sc (.int .i64 0)) rfl rfl rfl rfl ?_
  refine rt_nil ?_
  refine tri_block ?_
  refine tri_loop (ι := { p : Nat × Int × Int // s_l1New_l1 p0 p.1 p.2.1 p.2.2 = some r0 }) (fun p => inv_s_l1New_1 p0 p.1.2.1 p.1.2.2) (fun p => p.1.1) ⟨(fuel0, IntKind.i64.wrap (160909 + (p0.length : Int)), 0), h⟩ ?_ ?_
  ·skip
   refine entX [] [] trivial trivial rfl rfl ?_
   exact ⟨(.free rfl), (.free rfl), (.free rfl), trivial⟩
  ·rintro ⟨⟨f1, v1_0, v1_1⟩, h⟩
   replace h : s_l1New_l1 p0 f1 v1_0 v1_1 = some r0 := h
   cases f1 with
   | zero => cases h
   | succ f1 =>
   rw [s_l1New_l1] at h
   show Tri _ _ _ (inv_s_l1New_1 p0 v1_0 v1_1)
   refine tri_seq ?_
   refine tri_cutI (ι := { p : Bool // s_l1New_j2 p0 v1_0 v1_1 (s_l1New_l1 p0 f1) p = some r0 }) (fun p => inv_s_l1New_2 p0 v1_0 v1_1 p.1) ?_ ?_
   ·skip
    refine tri_region ?_
    refine m1 ?_
    refine m1 ?_
    refine s_lenL rfl sl22 rfl rfl rfl rfl ?_
    refine s_of (st_lss rfl rfl rfl) rfl rfl rfl rfl ?_
    refine m1 ?_
    refine s_split (t := 12) rfl (fun b1 => ?_) (fun b1 => ?_)
    ·replace h := cond_t h b1
     refine m1 ?_
     refine s_of (st_lss rfl rfl rfl) rfl rfl rfl rfl ?_
     refine s_pickT rfl rfl (by conv => lhs; whnf) rfl rfl rfl ?_
     refine rt_nil ?_
     refine Exists.intro ⟨decide (v1_1 < 4000), h⟩ ?_
     refine entX [] [] trivial trivial rfl rfl ?_
     exact ⟨(.free rfl), (.free rfl), (.free rfl), (.free rfl), trivial⟩
    ·replace h := cond_f h b1
     refine s_skip rfl rfl rfl ?_
     refine s_skip rfl rfl rfl ?_
     refine s_pickF rfl rfl (v := .sc (.bool false)) rfl rfl rfl rfl ?_
     refine rt_nil ?_
     refine Exists.intro ⟨false, h⟩ ?_
     refine entX [] [] trivial trivial rfl rfl ?_
     exact ⟨(.free rfl), (.free rfl), (.free rfl), (.free rfl), trivial⟩
   ·rintro ⟨j2_0, h⟩
    replace h : s_l1New_j2 p0 v1_0 v1_1 (s_l1New_l1 p0 f1) j2_0 = some r0 := h
    unfold s_l1New_j2 at h
    show Tri _ _ _ (inv_s_l1New_2 p0 v1_0 v1_1 j2_0)
    refine tri_cond rfl (fun c1 => ?_) (fun c1 => ?_)
    ·replace h := cond_t h c1
     refine tri_skip ?_
     refine tri_seq ?_
     refine tri_block ?_
     refine tri_region ?_
     refine m1 ?_
     refine s_of (st_mul rfl rfl rfl) rfl rfl rfl rfl ?_
     refine m1 ?_
     refine m1 ?_
     refine bnd1_elim h fun x2 q3 h => ?_
     have q3a := (idx_some q3).1; have q3b := (idx_some q3).2
     refine s_indexFZ rfl rfl rfl sl22 q3a (get_ltM q3b) rfl rfl rfl ?_
     refine s_loadF rfl rfl (rowG q3b) ty5 rfl (.inr rfl) (by conv => lhs; whnf) rfl rfl rfl ?_
     refine s_of (st_conv ik5 ik3 rfl rfl) rfl rfl rfl rfl ?_
     refine s_of (st_add rfl rfl rfl) rfl rfl rfl rfl ?_
     refine s_of (st_add rfl rfl rfl) rfl rfl rfl rfl ?_
     refine s_of (st_andD rfl rfl rfl) rfl rfl rfl rfl ?_
     refine m2 ?_
     refine rt_nil ?_
     refine tri_region ?_
     refine m1 ?_
     refine s_of (st_add rfl rfl rfl) rfl rfl rfl rfl ?_
     refine m2 ?_
     refine rt_nil ?_
     refine Exists.intro ⟨(f1, iand .i64 (IntKind.i64.wrap ((IntKind.i64.wrap ((IntKind.i64.wrap (v1_0 * 137)) + (IntKind.i64.wrap x2))) + 11)) 1073741823, IntKind.i64.wrap (v1_1 + 1)), h⟩ (And.intro (Nat.lt_succ_self _) ?_)
     refine entX [] [] trivial trivial rfl rfl ?_
     exact ⟨(.free rfl), (.free rfl), (.free rfl), trivial⟩
    ·replace h := cond_f h c1
     refine tri_exit ?_
     refine Exists.intro ⟨v1_0, h⟩ ?_
     refine entX [] [] trivial trivial rfl rfl ?_
     exact ⟨(.free rfl), (.free rfl), trivial⟩
 ·rintro ⟨j0_0, h⟩
  replace h : s_l1New_j0 p0 j0_0 = some r0 := h
  unfold s_l1New_j0 at h
  show Tri _ _ _ (inv_s_l1New_0 p0 j0_0)
  refine tri_sr ?_
  refine m1 ?_
  refine m1 ?_
  refine s_build (cells' := [.lst 1 (List.map byteV p0), .sc (.int .i64 0), .sc (.int .i64 j0_0)]) rfl stc136 rfl rfl rfl rfl rfl rfl rfl ?_
  refine s_box rfl rfl rfl rfl rfl rfl rfl ?_
  refine m2 ?_
  refine rt_nil ?_
  refine tri_ret ?_
  have e0 := (some1 h); subst e0
  exact endY (v' := .ptr (2000, 0) 0 0) [((2000, 0), ⟨136, 3, [[.lst 1 (List.map byteV p0), .sc (.int .i64 0), .sc (.int .i64 j0_0)]], false, true⟩, some (31, 0))] [] (rvC (resTmp rfl) rvN) ⟨⟨rfl, _, rfl, rfl, rfl, rfl, id, rowsCv_one (.cons (.free rfl) (.cons (.free rfl) (.cons (.free rfl) .nil))), rowsZ_one rfl⟩, trivial⟩ trivial rfl rfl (by kernel_rfl) (by simp only [V.mat, V.mat1, V.mat0, matL, matT, List.length_map] <;> rfl) (.ptr rfl)

/- spec.l1Byte -/

set_option maxRecDepth 4000 in
set_option maxHeartbeats 800000 in
theorem ws_l1Byte (p0 : Cur) (r0 : Int) (r1 : Cur) (h : s_l1Byte p0 = some (r0, r1)) : Runs Tryd.prog 167 [.ptr (1000, 0) 0 0] [⟨136, 3, [[.lst 1 (List.map byteV p0.b), .sc (.int .i64 p0.i), .sc (.int .i64 p0.h)]], false, false⟩] (.sc (.int .i64 r0)) [⟨136, 3, [[.lst 1 (List.map byteV r1.b), .sc (.int .i64 r1.i), .sc (.int .i64 r1.h)]], false, false⟩] := by
 unfold s_l1Byte at h
 refine runsR [.tmp 2] Tryd.func167 rfl rfl rfl rfl ?_
 rw [Tryd.ntmps167]
 refine tri_sr ?_
 refine s_mv (.inr rfl) (v := .sc (.int .i64 0)) rfl rfl rfl rfl ?_
 refine rt_nil ?_
 refine tri_sr ?_
 refine m1 ?_
 refine m1 ?_
 refine s_nilCheck rfl (by conv => lhs; whnf) (.inl ⟨_, _, _, rfl⟩) rfl rfl rfl ?_
 refine s_fieldAddr rfl rfl fd136_2 rfl rfl rfl rfl ?_
 refine s_load rfl rfl rfl rfl ty3 rfl (.inr rfl) (by conv => lhs; whnf) rfl rfl rfl ?_
 refine s_of (st_mul rfl rfl rfl) rfl rfl rfl rfl ?_
 refine s_of (st_add rfl rfl rfl) rfl rfl rfl rfl ?_
 refine s_nilCheck rfl (by conv => lhs; whnf) (.inl ⟨_, _, _, rfl⟩) rfl rfl rfl ?_
 refine s_fieldAddr rfl rfl fd136_2 rfl rfl rfl rfl ?_
 refine s_store (rows' := [[.lst 1 (List.map byteV p0.b), .sc (.int .i64 p0.i), .sc (.int .i64 (IntKind.i64.wrap ((IntKind.i64.wrap (p0.h * 6364136223846793005)) + 1442695040888963407)))]]) rfl rfl rfl rfl ty3 rfl rfl rfl rfl rfl rfl ?_
 refine rt_nil ?_
 refine tri_seq ?_
 refine tri_draw mixed ?_
 refine m1 ?_
 refine s_nilCheck rfl (by conv => lhs; whnf) (.inl ⟨_, _, _, rfl⟩) rfl rfl rfl ?_
 refine s_fieldAddr rfl rfl fd136_2 rfl rfl rfl rfl ?_
 refine s_load rfl rfl rfl rfl ty3 rfl (.inr rfl) (by conv => lhs; whnf) rfl rfl rfl ?_
 refine s_of (st_shrD (b := 33) rfl rfl rfl) rfl rfl rfl rfl ?_
 refine m1 ?_
 refine s_nilCheck rfl (by conv => lhs; whnf) (.inl ⟨_, _, _, rfl⟩) rfl rfl rfl ?_
 refine s_fieldAddr rfl rfl fd136_2 rfl rfl rfl rfl ?_
 refine s_load rfl rfl rfl rfl ty3 rfl (.inr rfl) (by conv => lhs; whnf) rfl rfl rfl ?_
 refine s_of (st_shrD (b := 47) rfl rfl rfl) rfl rfl rfl rfl ?_
 refine s_of (st_xorD rfl rfl rfl) rfl rfl rfl rfl ?_
 refine s_of (st_andD rfl rfl rfl) rfl rfl rfl rfl ?_
 refine m2 ?_
 refine rt_nil ⟨by kernel_rfl, ?_⟩
 refine tri_seq ?_
 refine tri_seq ?_
 refine tri_draw mixed ?_
 refine m1 ?_
 refine s_nilCheck rfl (by conv => lhs; whnf) (.inl ⟨_, _, _, rfl⟩) rfl rfl rfl ?_
 refine s_fieldAddr rfl rfl fd136_1 rfl rfl rfl rfl ?_
 refine s_load rfl rfl rfl rfl ty3 rfl (.inr rfl) (by conv => lhs; whnf) rfl rfl rfl ?_
 refine m1 ?_
 refine s_nilCheck rfl (by conv => lhs; whnf) (.inl ⟨_, _, _, rfl⟩) rfl rfl rfl ?_
 refine s_fieldAddr rfl rfl fd136_0 rfl rfl rfl rfl ?_
 refine s_load rfl rfl rfl rfl ty22 rfl (.inr rfl) (by conv => lhs; whnf) rfl rfl rfl ?_
 refine s_lenL rfl sl22 rfl rfl rfl rfl ?_
 refine s_of (st_lss rfl rfl rfl) rfl rfl rfl rfl ?_
 refine rt_nil ⟨by kernel_rfl, ?_⟩
 refine tri_cond rfl (fun c1 => ?_) (fun c1 => ?_)
 ·replace h := cond_t h c1
  refine tri_seq ?_
  refine tri_draw mixed ?_
  refine m1 ?_
  refine m1 ?_
  refine s_nilCheck rfl (by conv => lhs; whnf) (.inl ⟨_, _, _, rfl⟩) rfl rfl rfl ?_
  refine s_fieldAddr rfl rfl fd136_0 rfl rfl rfl rfl ?_
  refine s_load rfl rfl rfl rfl ty22 rfl (.inr rfl) (by conv => lhs; whnf) rfl rfl rfl ?_
  refine m1 ?_
  refine s_nilCheck rfl (by conv => lhs; whnf) (.inl ⟨_, _, _, rfl⟩) rfl rfl rfl ?_
  refine s_fieldAddr rfl rfl fd136_1 rfl rfl rfl rfl ?_
  refine s_load rfl rfl rfl rfl ty3 rfl (.inr rfl) (by conv => lhs; whnf) rfl rfl rfl ?_
  refine bnd1_elim h fun x2 q3 h => ?_
  have q3a := (idx_some q3).1; have q3b := (idx_some q3).2
  refine s_indexFZ rfl rfl rfl sl22 q3a (get_ltM q3b) rfl rfl rfl ?_
  refine s_loadF rfl rfl (rowG q3b) ty5 rfl (.inr rfl) (by conv => lhs; whnf) rfl rfl rfl ?_
  refine s_of (st_conv ik5 ik3 rfl rfl) rfl rfl rfl rfl ?_
  refine s_of (st_add rfl rfl rfl) rfl rfl rfl rfl ?_
  refine s_of (st_andD rfl rfl rfl) rfl rfl rfl rfl ?_
  refine m2 ?_
  refine rt_nil ⟨by kernel_rfl, ?_⟩
  refine tri_region ?_
  refine m1 ?_
  refine m1 ?_
  refine s_nilCheck rfl (by conv => lhs; whnf) (.inl ⟨_, _, _, rfl⟩) rfl rfl rfl ?_
  refine s_fieldAddr rfl rfl fd136_1 rfl rfl rfl rfl ?_
  refine s_load rfl rfl rfl rfl ty3 rfl (.inr rfl) (by conv => lhs; whnf) rfl rfl rfl ?_
  refine s_of (st_add rfl rfl rfl) rfl rfl rfl rfl ?_
  refine s_nilCheck rfl (by conv => lhs; whnf) (.inl ⟨_, _, _, rfl⟩) rfl rfl rfl ?_
  refine s_fieldAddr rfl rfl fd136_1 rfl rfl rfl rfl ?_
  refine s_store (rows' := [[.lst 1 (List.map byteV p0.b), .sc (.int .i64 (IntKind.i64.wrap (p0.i + 1))), .sc (.int .i64 (IntKind.i64.wrap ((IntKind.i64.wrap (p0.h * 6364136223846793005)) + 1442695040888963407)))]]) rfl rfl rfl rfl ty3 rfl rfl rfl rfl rfl rfl ?_
  refine rt_nil ?_
  refine tri_sr ?_
  refine m1 ?_
  refine m2 ?_
  refine rt_nil ?_
  refine tri_ret ?_
  have e0 := (some2 h).1; have e1 := (some2 h).2; subst e0; subst e1
  exact endY [((1000, 0), ⟨136, 3, [[.lst 1 (List.map byteV p0.b), .sc (.int .i64 (IntKind.i64.wrap (p0.i + 1))), .sc (.int .i64 (IntKind.i64.wrap ((IntKind.i64.wrap (p0.h * 6364136223846793005)) + 1442695040888963407)))]], false, false⟩, some (1000, 0))] [] (rvC (resTmp rfl) rvN) ⟨⟨rfl, _, rfl, rfl, rfl, rfl, id, rowsCv_one (.cons (.free rfl) (.cons (.free rfl) (.cons (.free rfl) .nil))), rowsZ_one rfl⟩, trivial⟩ trivial rfl rfl (by kernel_rfl) rfl (.free rfl)
 ·replace h := cond_f h c1
  refine tri_skip ?_
  refine tri_sr ?_
  refine m1 ?_
  refine m2 ?_
  refine rt_nil ?_
  refine tri_ret ?_
  have e0 := (some2 h).1; have e1 := (some2 h).2; subst e0; subst e1
  exact endY [((1000, 0), ⟨136, 3, [[.lst 1 (List.map byteV p0.b), .sc (.int .i64 p0.i), .sc (.int .i64 (IntKind.i64.wrap ((IntKind.i64.wrap (p0.h * 6364136223846793005)) + 1442695040888963407)))]], false, false⟩, some (1000, 0))] [] (rvC (resTmp rfl) rvN) ⟨⟨rfl, _, rfl, rfl, rfl, rfl, id, rowsCv_one (.cons (.free rfl) (.cons (.free rfl) (.cons (.free rfl) .nil))), rowsZ_one rfl⟩, trivial⟩ trivial rfl rfl (by kernel_rfl) rfl (.free rfl)

/- spec.l1Below -/

set_option maxRecDepth 4000 in
set_option maxHeartbeats 800000 in
theorem ws_l1Below (p0 : Cur) (p1 : Int) (r0 : Int) (r1 : Cur) (h : s_l1Below p0 p1 = some (r0, r1)) : Runs Tryd.prog 116 [.ptr (1000, 0) 0 0, .sc (.int .i64 p1)] [⟨136, 3, [[.lst 1 (List.map byteV p0.b), .sc (.int .i64 p0.i), .sc (.int .i64 p0.h)]], false, false⟩] (.sc (.int .i64 r0)) [⟨136, 3, [[.lst 1 (List.map byteV r1.b), .sc (.int .i64 r1.i), .sc (.int .i64 r1.h)]], false, false⟩] := by
 unfold s_l1Below at h
 refine runsR [.tmp 4] Tryd.func116 rfl rfl rfl rfl ?_
 rw [Tryd.ntmps116]
 refine tri_sr ?_
 refine s_mv (.inr rfl) (v := .sc (.int .i64 0)) rfl rfl rfl rfl ?_
 refine rt_nil ?_
 refine tri_seq ?_
 refine tri_sr ?_
 refine m1 ?_
 refine s_of (st_leq rfl rfl rfl) rfl rfl rfl rfl ?_
 refine rt_nil ?_
 refine tri_cond rfl (fun c1 => ?_) (fun c1 => ?_)
 ·replace h := cond_t h c1
  refine tri_sr ?_
  refine s_mv (.inr rfl) (v := .sc (.int .i64 0)) rfl rfl rfl rfl ?_
  refine rt_nil ?_
  refine tri_ret ?_
  have e0 := (some2 h).1; have e1 := (some2 h).2; subst e0; subst e1
  exact endY [((1000, 0), ⟨136, 3, [[.lst 1 (List.map byteV p0.b), .sc (.int .i64 p0.i), .sc (.int .i64 p0.h)]], false, false⟩, some (1000, 0))] [] (rvC (resTmp rfl) rvN) ⟨⟨rfl, _, rfl, rfl, rfl, rfl, id, rowsCv_one (.cons (.free rfl) (.cons (.free rfl) (.cons (.free rfl) .nil))), rowsZ_one rfl⟩, trivial⟩ trivial rfl rfl (by kernel_rfl) rfl (.free rfl)
 ·replace h := cond_f h c1
  refine tri_skip ?_
  refine tri_seq ?_
  refine tri_sr ?_
  refine m1 ?_
  refine s_of (st_leq rfl rfl rfl) rfl rfl rfl rfl ?_
  refine rt_nil ?_
  refine tri_cond rfl (fun c2 => ?_) (fun c2 => ?_)
  ·replace h := cond_t h c2
   refine tri_sr ?_
   refine m1 ?_
   refine bnd2_elim h fun x3 x4 q5 h => ?_
   refine s_callZ (kb := []) (ns := [(1000, 0)]) (v := .sc (.int .i64 x3)) rfl rfl cl167 (ws_l1Byte p0 x3 x4 q5) rfl (.cons (.ptrOwn rfl) .nil) ⟨⟨_, rfl, rfl⟩, trivial⟩ (memCons (allFree_one rfl) memNil) (List.nodup_cons.2 ⟨List.not_mem_nil, .nil⟩) memNil trivial rfl trivial (memCons (allFree_one rfl) memNil) rfl rfl rfl rfl rfl rfl ?_
   refine m1 ?_
   refine grd_elim h fun g6 h => ?_
   refine s_of (st_rem rfl rfl rfl g6) rfl rfl rfl rfl ?_
   refine m2 ?_
   refine rt_nil ?_
   refine tri_ret ?_
   have e0 := (some2 h).1; have e1 := (some2 h).2; subst e0; subst e1
   exact endY [((1000, 0), ⟨136, 3, [[.lst 1 (List.map byteV x4.b), .sc (.int .i64 x4.i), .sc (.int .i64 x4.h)]], false, false⟩, some (1000, 0))] [] (rvC (resTmp rfl) rvN) ⟨⟨rfl, _, rfl, rfl, rfl, rfl, id, rowsCv_one (.cons (.free rfl) (.cons (.free rfl) (.cons (.free rfl) .nil))), rowsZ_one rfl⟩, trivial⟩ trivial rfl rfl (by kernel_rfl) rfl (.free rfl)
  ·replace h := cond_f h c2
   refine tri_skip ?_
   refine tri_sr ?_
   refine m1 ?_
   refine bnd2_elim h fun x7 x8 q9 h => ?_
   refine s_callZ (kb := []) (ns := [(1000, 0)]) (v := .sc (.int .i64 x7)) rfl rfl cl167 (ws_l1Byte p0 x7 x8 q9) rfl (.cons (.ptrOwn rfl) .nil) ⟨⟨_, rfl, rfl⟩, trivial⟩ (memCons (allFree_one rfl) memNil) (List.nodup_cons.2 ⟨List.not_mem_nil, .nil⟩) memNil trivial rfl trivial (memCons (allFree_one rfl) memNil) rfl rfl rfl rfl rfl rfl ?_
   refine m2 ?_
   refine rt_nil ?_
   refine tri_sr ?_
   refine m1 ?_
   refine bnd2_elim h fun x10 x11 q12 h => ?_
   refine s_callZ (kb := []) (ns := [(1000, 0)]) (v := .sc (.int .i64 x10)) rfl rfl cl167 (ws_l1Byte x8 x10 x11 q12) rfl (.cons (.ptrOwn rfl) .nil) ⟨⟨_, rfl, rfl⟩, trivial⟩ (memCons (allFree_one rfl) memNil) (List.nodup_cons.2 ⟨List.not_mem_nil, .nil⟩) memNil trivial rfl trivial (memCons (allFree_one rfl) memNil) rfl rfl rfl rfl rfl rfl ?_
   refine m2 ?_
   refine rt_nil ?_
   refine tri_sr ?_
   refine m1 ?_
   refine bnd2_elim h fun x13 x14 q15 h => ?_
   refine s_callZ (kb := []) (ns := [(1000, 0)]) (v := .sc (.int .i64 x13)) rfl rfl cl167 (ws_l1Byte x11 x13 x14 q15) rfl (.cons (.ptrOwn rfl) .nil) ⟨⟨_, rfl, rfl⟩, trivial⟩ (memCons (allFree_one rfl) memNil) (List.nodup_cons.2 ⟨List.not_mem_nil, .nil⟩) memNil trivial rfl trivial (memCons (allFree_one rfl) memNil) rfl rfl rfl rfl rfl rfl ?_
   refine m2 ?_
   refine rt_nil ?_
   refine tri_sr ?_
   refine m1 ?_
   refine grd_elim h fun g16 h => ?_
   refine s_mulI rfl rfl rfl rfl g16 rfl rfl rfl ?_
   refine m1 ?_
   refine grd_elim h fun g17 h => ?_
   refine s_mulI rfl rfl rfl rfl g17 rfl rfl rfl ?_
   refine grd_elim h fun g18 h => ?_
   refine s_addI rfl rfl rfl rfl g18 rfl rfl rfl ?_
   refine m1 ?_
   refine grd_elim h fun g19 h => ?_
   refine s_addI rfl rfl rfl rfl g19 rfl rfl rfl ?_
   refine m1 ?_
   refine grd_elim h fun g20 h => ?_
   refine s_of (st_rem rfl rfl rfl g20) rfl rfl rfl rfl ?_
   refine m2 ?_
   refine rt_nil ?_
   refine tri_ret ?_
   have e0 := (some2 h).1; have e1 := (some2 h).2; subst e0; subst e1
   exact endY [((1000, 0), ⟨136, 3, [[.lst 1 (List.map byteV x14.b), .sc (.int .i64 x14.i), .sc (.int .i64 x14.h)]], false, false⟩, some (1000, 0))] [] (rvC (resTmp rfl) rvN) ⟨⟨rfl, _, rfl, rfl, rfl, rfl, id, rowsCv_one (.cons (.free rfl) (.cons (.free rfl) (.cons (.free rfl) .nil))), rowsZ_one rfl⟩, trivial⟩ trivial rfl rfl (by kernel_rfl) rfl (.free rfl)

/- spec.l1Int -/

set_option maxRecDepth 4000 in
set_option maxHeartbeats 800000 in
theorem ws_l1Int (p0 : Cur) (p1 : List Int) (r0 : Int) (r1 : Cur) (h : s_l1Int p0 p1 = some (r0, r1)) : Runs Tryd.prog 140 [.ptr (1000, 0) 0 0, .lst 1 (List.map intV p1)] [⟨136, 3, [[.lst 1 (List.map byteV p0.b), .sc (.int .i64 p0.i), .sc (.int .i64 p0.h)]], false, false⟩] (.sc (.int .i64 r0)) [⟨136, 3, [[.lst 1 (List.map byteV r1.b), .sc (.int .i64 r1.i), .sc (.int .i64 r1.h)]], false, false⟩] := by
 unfold s_l1Int at h
 refine runsR [.tmp 4] Tryd.func140 rfl rfl rfl rfl ?_
 rw [Tryd.ntmps140]
 refine tri_sr ?_
 refine s_mv (.inr rfl) (v := .sc (.int .i64 0)) rfl rfl rfl rfl ?_
 refine rt_nil ?_
 refine tri_sr ?_
 refine m1 ?_
 refine m1 ?_
 refine m1 ?_
 refine s_lenL rfl sl76 rfl rfl rfl rfl ?_
 refine bnd2_elim h fun x1 x2 q3 h => ?_
 refine s_callZ (kb := []) (ns := [(1000, 0)]) (v := .sc (.int .i64 x1)) rfl rfl cl116 (ws_l1Below p0 (p1.length : Int) x1 x2 q3) rfl (.cons (.ptrOwn rfl) (.cons (.free rfl) .nil)) ⟨⟨_, rfl, rfl⟩, trivial⟩ (memCons (allFree_one rfl) memNil) (List.nodup_cons.2 ⟨List.not_mem_nil, .nil⟩) memNil trivial rfl trivial (memCons (allFree_one rfl) memNil) rfl rfl rfl rfl rfl rfl ?_
 refine bnd1_elim h fun x4 q5 h => ?_
 have q5a := (idx_some q5).1; have q5b := (idx_some q5).2
 refine s_indexFZ rfl rfl rfl sl76 q5a (get_ltM q5b) rfl rfl rfl ?_
 refine s_loadF rfl rfl (rowG q5b) ty3 rfl (.inr rfl) (by conv => lhs; whnf) rfl rfl rfl ?_
 refine m2 ?_
 refine rt_nil ?_
 refine tri_ret ?_
 have e0 := (some2 h).1; have e1 := (some2 h).2; subst e0; subst e1
 exact endY [((1000, 0), ⟨136, 3, [[.lst 1 (List.map byteV x2.b), .sc (.int .i64 x2.i), .sc (.int .i64 x2.h)]], false, false⟩, some (1000, 0))] [] (rvC (resTmp rfl) rvN) ⟨⟨rfl, _, rfl, rfl, rfl, rfl, id, rowsCv_one (.cons (.free rfl) (.cons (.free rfl) (.cons (.free rfl) .nil))), rowsZ_one rfl⟩, trivial⟩ trivial rfl rfl (by kernel_rfl) rfl (.free rfl)

/- spec.l10Start -/

set_option maxRecDepth 4000 in
set_option maxHeartbeats 800000 in
theorem ws_l10Start (p0 : ByteArray) (p1 : Int) (r0 : Rec) (h : s_l10Start p0 p1 = some r0) : Runs Tryd.prog 141 [.sc (.string p0), .sc (.int .i64 p1)] [] (.agg (recV r0)) [] := by
 unfold s_l10Start at h
 refine runsR [.cell 4 39] Tryd.func141 rfl rfl rfl rfl ?_
 rw [Tryd.ntmps141]
 refine tri_sr ?_
 refine s_alloc rfl rfl rfl zc39 rfl rfl rfl rfl rfl ?_
 refine rt_nil ?_
 refine tri_sr ?_
 refine m1 ?_
 refine m1 ?_
 refine m1 ?_
 refine s_of (st_quo rfl rfl rfl (by decide)) rfl rfl rfl rfl ?_
 refine s_build (cells' := [.sc (.string p0), .sc (.int .i64 6), .sc (.int .i64 p1), .sc (.int .i64 (IntKind.i64.wrap (Int.tdiv p1 2))), .sc (.string (⟨#[]⟩ : ByteArray)), .sc (.string (⟨#[]⟩ : ByteArray))]) rfl stc39 rfl rfl rfl rfl rfl rfl rfl ?_
 refine s_storeB rfl rfl rfl ty39 rfl rfl rfl rfl rfl ?_
 refine rt_nil ?_
 refine tri_ret ?_
 have e0 := (some1 h); subst e0
 exact endY [] [] (rvC (resCell rfl rfl ty39) rvN) trivial trivial rfl rfl rfl rfl (cvAgg rfl)

/- spec.l10Server -/

set_option maxRecDepth 4000 in
set_option maxHeartbeats 800000 in
theorem ws_l10Server (p0 : ByteArray) (p1 : ByteArray) (p2 : Int) (r0 : Rec) (h : s_l10Server p0 p1 p2 = some r0) : Runs Tryd.prog 142 [.sc (.string p0), .sc (.string p1), .sc (.int .i64 p2)] [] (.agg (recV r0)) [] := by
 unfold s_l10Server at h
 refine runsR [.cell 6 39] Tryd.func142 rfl rfl rfl rfl ?_
 rw [Tryd.ntmps142]
 refine tri_sr ?_
 refine s_alloc rfl rfl rfl zc39 rfl rfl rfl rfl rfl ?_
 refine rt_nil ?_
 refine tri_sr ?_
 refine m1 ?_
 refine m1 ?_
 refine m1 ?_
 refine s_build (cells' := [.sc (.string p0), .sc (.int .i64 2), .sc (.int .i64 p2), .sc (.int .i64 0), .sc (.string p1), .sc (.string (⟨#[]⟩ : ByteArray))]) rfl stc39 rfl rfl rfl rfl rfl rfl rfl ?_
 refine s_storeB rfl rfl rfl ty39 rfl rfl rfl rfl rfl ?_
 refine rt_nil ?_
 refine tri_ret ?_
 have e0 := (some1 h); subst e0
 exact endY [] [] (rvC (resCell rfl rfl ty39) rvN) trivial trivial rfl rfl rfl rfl (cvAgg rfl)

/- spec.l10Addr -/

set_option maxRecDepth 4000 in
set_option maxHeartbeats 800000 in
theorem ws_l10Addr (p0 : ByteArray) (p1 : Int) (p2 : Int) (r0 : Rec) (h : s_l10Addr p0 p1 p2 = some r0) : Runs Tryd.prog 143 [.sc (.string p0), .sc (.int .i64 p1), .sc (.int .i64 p2)] [] (.agg (recV r0)) [] := by
 unfold s_l10Addr at h
 refine runsR [.cell 6 39] Tryd.func143 rfl rfl rfl rfl ?_
 rw [Tryd.ntmps143]
 refine tri_sr ?_
 refine s_alloc rfl rfl rfl zc39 rfl rfl rfl rfl rfl ?_
 refine rt_nil ?_
 refine tri_sr ?_
 refine m1 ?_
 refine m1 ?_
 refine m1 ?_
 refine s_build (cells' := [.sc (.string p0), .sc (.int .i64 1), .sc (.int .i64 p2), .sc (.int .i64 p1), .sc (.string (⟨#[]⟩ : ByteArray)), .sc (.string (⟨#[]⟩ : ByteArray))]) rfl stc39 rfl rfl rfl rfl rfl rfl rfl ?_
 refine s_storeB rfl rfl rfl ty39 rfl rfl rfl rfl rfl ?_
 refine rt_nil ?_
 refine tri_ret ?_
 have e0 := (some1 h); subst e0
 exact endY [] [] (rvC (resCell rfl rfl ty39) rvN) trivial trivial rfl rfl rfl rfl (cvAgg rfl)

/- spec.l1Once -/

set_option maxRecDepth 4000 in
set_option maxHeartbeats 800000 in
theorem ws_l1Once (p0 : Cur) (p1 : Int) (r0 : Bool) (r1 : Cur) (h : s_l1Once p0 p1 = some (r0, r1)) : Runs Tryd.prog 113 [.ptr (1000, 0) 0 0, .sc (.int .i64 p1)] [⟨136, 3, [[.lst 1 (List.map byteV p0.b), .sc (.int .i64 p0.i), .sc (.int .i64 p0.h)]], false, false⟩] (.sc (.bool r0)) [⟨136, 3, [[.lst 1 (List.map byteV r1.b), .sc (.int .i64 r1.i), .sc (.int .i64 r1.h)]], false, false⟩] := by
 unfold s_l1Once at h
 refine runsR [.tmp 4] Tryd.func113 rfl rfl rfl rfl ?_
 rw [Tryd.ntmps113]
 refine tri_sr ?_
 refine s_mv (.inr rfl) (v := .sc (.bool false)) rfl rfl rfl rfl ?_
 refine rt_nil ?_
 refine tri_sr ?_
 refine m1 ?_
 refine m1 ?_
 refine bnd2_elim h fun x1 x2 q3 h => ?_
 refine s_callZ (kb := []) (ns := [(1000, 0)]) (v := .sc (.int .i64 x1)) rfl rfl cl116 (ws_l1Below p0 p1 x1 x2 q3) rfl (.cons (.ptrOwn rfl) (.cons (.free rfl) .nil)) ⟨⟨_, rfl, rfl⟩, trivial⟩ (memCons (allFree_one rfl) memNil) (List.nodup_cons.2 ⟨List.not_mem_nil, .nil⟩) memNil trivial rfl trivial (memCons (allFree_one rfl) memNil) rfl rfl rfl rfl rfl rfl ?_
 refine s_of (st_eqI rfl rfl rfl) rfl rfl rfl rfl ?_
 refine m2 ?_
 refine rt_nil ?_
 refine tri_ret ?_
 have e0 := (some2 h).1; have e1 := (some2 h).2; subst e0; subst e1
 exact endY [((1000, 0), ⟨136, 3, [[.lst 1 (List.map byteV x2.b), .sc (.int .i64 x2.i), .sc (.int .i64 x2.h)]], false, false⟩, some (1000, 0))] [] (rvC (resTmp rfl) rvN) ⟨⟨rfl, _, rfl, rfl, rfl, rfl, id, rowsCv_one (.cons (.free rfl) (.cons (.free rfl) (.cons (.free rfl) .nil))), rowsZ_one rfl⟩, trivial⟩ trivial rfl rfl (by kernel_rfl) rfl (.free rfl)

/- spec.l1Str -/

set_option maxRecDepth 4000 in
set_option maxHeartbeats 800000 in
theorem ws_l1Str (p0 : Cur) (p1 : List ByteArray) (r0 : ByteArray) (r1 : Cur) (h : s_l1Str p0 p1 = some (r0, r1)) : Runs Tryd.prog 118 [.ptr (1000, 0) 0 0, .lst 1 (List.map strV p1)] [⟨136, 3, [[.lst 1 (List.map byteV p0.b), .sc (.int .i64 p0.i), .sc (.int .i64 p0.h)]], false, false⟩] (.sc (.string r0)) [⟨136, 3, [[.lst 1 (List.map byteV r1.b), .sc (.int .i64 r1.i), .sc (.int .i64 r1.h)]], false, false⟩] := by
 unfold s_l1Str at h
 refine runsR [.tmp 4] Tryd.func118 rfl rfl rfl rfl ?_
 rw [Tryd.ntmps118]
 refine tri_sr ?_
 refine s_mv (.inr rfl) (v := .sc (.string (⟨#[]⟩ : ByteArray))) rfl rfl rfl rfl ?_
 refine rt_nil ?_
 refine tri_sr ?_
 refine m1 ?_
 refine m1 ?_
 refine m1 ?_
 refine s_lenL rfl sl33 rfl rfl rfl rfl ?_
 refine bnd2_elim h fun x1 x2 q3 h => ?_
 refine s_callZ (kb := []) (ns := [(1000, 0)]) (v := .sc (.int .i64 x1)) rfl rfl cl116 (ws_l1Below p0 (p1.length : Int) x1 x2 q3) rfl (.cons (.ptrOwn rfl) (.cons (.free rfl) .nil)) ⟨⟨_, rfl, rfl⟩, trivial⟩ (memCons (allFree_one rfl) memNil) (List.nodup_cons.2 ⟨List.not_mem_nil, .nil⟩) memNil trivial rfl trivial (memCons (allFree_one rfl) memNil) rfl rfl rfl rfl rfl rfl ?_
 refine bnd1_elim h fun x4 q5 h => ?_
 have q5a := (idx_some q5).1; have q5b := (idx_some q5).2
 refine s_indexFZ rfl rfl rfl sl33 q5a (get_ltM q5b) rfl rfl rfl ?_
 refine s_loadF rfl rfl (rowG q5b) ty9 rfl (.inr rfl) (by conv => lhs; whnf) rfl rfl rfl ?_
 refine m2 ?_
 refine rt_nil ?_
 refine tri_ret ?_
 have e0 := (some2 h).1; have e1 := (some2 h).2; subst e0; subst e1
 exact endY [((1000, 0), ⟨136, 3, [[.lst 1 (List.map byteV x2.b), .sc (.int .i64 x2.i), .sc (.int .i64 x2.h)]], false, false⟩, some (1000, 0))] [] (rvC (resTmp rfl) rvN) ⟨⟨rfl, _, rfl, rfl, rfl, rfl, id, rowsCv_one (.cons (.free rfl) (.cons (.free rfl) (.cons (.free rfl) .nil))), rowsZ_one rfl⟩, trivial⟩ trivial rfl rfl (by kernel_rfl) rfl (.free rfl)

/- spec.Labels -/
def inv_s_Labels_2 (p0 : ByteArray) (v0_0 : List ByteArray) (v0_1 : Int) (v0_2 : Int) (j2_0 : Bool) : St := mkT 37 [(0, .sc (.string p0)), (3, .ref (2003, 0) 0 v0_0.length), (4, .sc (.int .i64 v0_1)), (5, .sc (.int .i64 v0_2)), (26, .sc (.bool j2_0))] [((2003, 0), some ⟨9, 1, List.map strV v0_0, false, true⟩)]
def inv_s_Labels_1 (p0 : ByteArray) (v0_0 : List ByteArray) (v0_1 : Int) (v0_2 : Int) (j1_0 : Bool) : St := mkT 37 [(0, .sc (.string p0)), (3, .ref (2003, 0) 0 v0_0.length), (4, .sc (.int .i64 v0_1)), (5, .sc (.int .i64 v0_2)), (14, .sc (.bool j1_0))] [((2003, 0), some ⟨9, 1, List.map strV v0_0, false, true⟩)]
def inv_s_Labels_0 (p0 : ByteArray) (v0_0 : List ByteArray) (v0_1 : Int) (v0_2 : Int) : St := mkT 37 [(0, .sc (.string p0)), (3, .ref (2003, 0) 0 v0_0.length), (4, .sc (.int .i64 v0_1)), (5, .sc (.int .i64 v0_2))] [((2003, 0), some ⟨9, 1, List.map strV v0_0, false, true⟩)]
set_option maxRecDepth 4000 in
set_option maxHeartbeats 800000 in
theorem ws_Labels (p0 : ByteArray) (r0 : List ByteArray) (h : s_Labels p0 = some r0) : Runs Tryd.prog 176 [.sc (.string p0)] [] (.own 9 1 (List.map strV r0)) [] := by
 unfold s_Labels at h
 refine runsR [.tmp 2] Tryd.func176 rfl rfl rfl rfl ?_
 rw [Tryd.ntmps176]
 refine tri_sr ?_
 refine s_mv (.inr rfl) (v := .nils) rfl rfl rfl rfl ?_
 refine rt_nil ?_
 refine tri_sr ?_
 refine s_buildSlice (rows' := List.map strV ([] : List ByteArray)) rfl rfl rfl sl33 zc9 rfl rfl rfl rfl rfl rfl rfl rfl rfl ?_
 refine m2 ?_
 refine rt_nil ?_
 refine tri_sr ?_
 refine s_mv (.inr rfl) (v := .sc (.int .i64 0)) rfl rfl rfl rfl ?_
 refine rt_nil ?_
 refine tri_seq ?_
 refine tri_sr ?_
 refine s_mv (.inr rfl) (v := .sc (.int .i64 0)) rfl rfl rfl rfl ?_
 refine rt_nil ?_
 refine tri_block ?_
 refine tri_loop (ι := { p : Nat × (List ByteArray) × Int × Int // s_Labels_l0 p0 p.1 p.2.1 p.2.2.1 p.2.2.2 = some r0 }) (fun p => inv_s_Labels_0 p0 p.1.2.1 p.1.2.2.1 p.1.2.2.2) (fun p => p.1.1) ⟨(fuel0, ([] : List ByteArray), 0, 0), h⟩ ?_ ?_
 ·skip
  refine entX [((2003, 0), ⟨9, 1, List.map strV ([] : List ByteArray), false, true⟩, some (6, 0))] [] ⟨⟨rfl, _, rfl, rfl, rfl, rfl, id, rowsCv_eq rfl (allFree_map strV_free), rowsZ_map strV_len⟩, trivial⟩ trivial rfl rfl ?_
  exact ⟨(.free rfl), (.ref rfl), (.free rfl), (.free rfl), trivial⟩
 ·rintro ⟨⟨f0, v0_0, v0_1, v0_2⟩, h⟩
  replace h : s_Labels_l0 p0 f0 v0_0 v0_1 v0_2 = some r0 := h
  cases f0 with
  | zero => cases h
  | succ f0 =>
  rw [s_Labels_l0] at h
  show Tri _ _ _ (inv_s_Labels_0 p0 v0_0 v0_1 v0_2)
  refine tri_seq ?_
  refine tri_cutI (ι := { p : Bool // s_Labels_j1 p0 v0_0 v0_1 v0_2 (s_Labels_l0 p0 f0) p = some r0 }) (fun p => inv_s_Labels_1 p0 v0_0 v0_1 v0_2 p.1) ?_ ?_
  ·skip
   refine tri_region ?_
   refine m1 ?_
   refine m1 ?_
   refine s_of (st_lenS rfl rfl iss9) rfl rfl rfl rfl ?_
   refine s_of (st_leq rfl rfl rfl) rfl rfl rfl rfl ?_
   refine m1 ?_
   refine s_split (t := 11) rfl (fun b1 => ?_) (fun b1 => ?_)
   ·replace h := cond_t h b1
    refine m1 ?_
    refine s_of (st_neS rfl rfl rfl) rfl rfl rfl rfl ?_
    refine s_pickT rfl rfl (by conv => lhs; whnf) rfl rfl rfl ?_
    refine rt_nil ?_
    refine Exists.intro ⟨!decide (p0 = (⟨#[]⟩ : ByteArray)), h⟩ ?_
    refine entX [((2003, 0), ⟨9, 1, List.map strV v0_0, false, true⟩, some (2003, 0))] [] ⟨⟨rfl, _, rfl, rfl, rfl, rfl, id, rowsCv_eq rfl (allFree_map strV_free), rowsZ_map strV_len⟩, trivial⟩ trivial rfl rfl ?_
    exact ⟨(.free rfl), (.ref rfl), (.free rfl), (.free rfl), (.free rfl), trivial⟩
   ·replace h := cond_f h b1
    refine s_skip rfl rfl rfl ?_
    refine s_skip rfl rfl rfl ?_
    refine s_pickF rfl rfl (v := .sc (.bool false)) rfl rfl rfl rfl ?_
    refine rt_nil ?_
    refine Exists.intro ⟨false, h⟩ ?_
    refine entX [((2003, 0), ⟨9, 1, List.map strV v0_0, false, true⟩, some (2003, 0))] [] ⟨⟨rfl, _, rfl, rfl, rfl, rfl, id, rowsCv_eq rfl (allFree_map strV_free), rowsZ_map strV_len⟩, trivial⟩ trivial rfl rfl ?_
    exact ⟨(.free rfl), (.ref rfl), (.free rfl), (.free rfl), (.free rfl), trivial⟩
  ·rintro ⟨j1_0, h⟩
   replace h : s_Labels_j1 p0 v0_0 v0_1 v0_2 (s_Labels_l0 p0 f0) j1_0 = some r0 := h
   unfold s_Labels_j1 at h
   show Tri _ _ _ (inv_s_Labels_1 p0 v0_0 v0_1 v0_2 j1_0)
   refine tri_cond rfl (fun c1 => ?_) (fun c1 => ?_)
   ·replace h := cond_t h c1
    refine tri_skip ?_
    refine tri_seq ?_
    refine tri_block ?_
    refine tri_cutI (ι := { p : Bool // s_Labels_j2 p0 v0_0 v0_1 v0_2 (s_Labels_l0 p0 f0) p = some r0 }) (fun p => inv_s_Labels_2 p0 v0_0 v0_1 v0_2 p.1) ?_ ?_
    ·skip
     refine tri_region ?_
     refine m1 ?_
     refine m1 ?_
     refine s_of (st_lenS rfl rfl iss9) rfl rfl rfl rfl ?_
     refine s_of (st_eqI rfl rfl rfl) rfl rfl rfl rfl ?_
     refine m1 ?_
     refine s_split (t := 21) rfl (fun b2 => ?_) (fun b2 => ?_)
     ·replace h := cond_t h b2
      refine s_skip rfl rfl rfl ?_
      refine s_skip rfl rfl rfl ?_
      refine s_skip rfl rfl rfl ?_
      refine s_skip rfl rfl rfl ?_
      refine s_pickT rfl rfl (v := .sc (.bool true)) rfl rfl rfl rfl ?_
      refine rt_nil ?_
      refine Exists.intro ⟨true, h⟩ ?_
      refine entX [((2003, 0), ⟨9, 1, List.map strV v0_0, false, true⟩, some (2003, 0))] [] ⟨⟨rfl, _, rfl, rfl, rfl, rfl, id, rowsCv_eq rfl (allFree_map strV_free), rowsZ_map strV_len⟩, trivial⟩ trivial rfl rfl ?_
      exact ⟨(.free rfl), (.ref rfl), (.free rfl), (.free rfl), (.free rfl), trivial⟩
     ·replace h := cond_f h b2
      refine m1 ?_
      refine m1 ?_
      refine bnd1_elim h fun x3 q4 h => ?_
      refine s_idxS rfl rfl rfl iss9 q4 rfl rfl rfl ?_
      refine s_of (st_eqI rfl rfl rfl) rfl rfl rfl rfl ?_
      refine s_pickF rfl rfl (by conv => lhs; whnf) rfl rfl rfl ?_
      refine rt_nil ?_
      refine Exists.intro ⟨decide (x3 = 46), h⟩ ?_
      refine entX [((2003, 0), ⟨9, 1, List.map strV v0_0, false, true⟩, some (2003, 0))] [] ⟨⟨rfl, _, rfl, rfl, rfl, rfl, id, rowsCv_eq rfl (allFree_map strV_free), rowsZ_map strV_len⟩, trivial⟩ trivial rfl rfl ?_
      exact ⟨(.free rfl), (.ref rfl), (.free rfl), (.free rfl), (.free rfl), trivial⟩
    ·rintro ⟨j2_0, h⟩
     replace h : s_Labels_j2 p0 v0_0 v0_1 v0_2 (s_Labels_l0 p0 f0) j2_0 = some r0 := h
     unfold s_Labels_j2 at h
     show Tri _ _ _ (inv_s_Labels_2 p0 v0_0 v0_1 v0_2 j2_0)
     refine tri_cond rfl (fun c2 => ?_) (fun c2 => ?_)
     ·replace h := cond_t h c2
      refine tri_sr ?_
      refine m1 ?_
      refine m1 ?_
      refine m1 ?_
      refine m1 ?_
      refine grd_elim h fun g3 h => ?_
      refine s_sliceS (a := v0_1) (b := v0_2) rfl rfl iss9 ⟨_, rfl⟩ ⟨_, rfl⟩ g3 rfl rfl rfl ?_
      refine s_buildSlice (rows' := List.map strV [p0.extract v0_1.toNat v0_2.toNat]) rfl rfl rfl sl33 zc9 rfl rfl rfl rfl rfl rfl rfl rfl rfl ?_
      refine grd_elim h fun g4 h => ?_
      refine s_appL rfl rfl rfl sl33 zc9 rfl rfl rfl rfl rfl rfl (src_refL rfl rfl) g4 rfl rfl ?_
      refine m2 ?_
      refine rt_nil ?_
      refine tri_region ?_
      refine m1 ?_
      refine grd_elim h fun g5 h => ?_
      refine s_addI rfl rfl rfl rfl g5 rfl rfl rfl ?_
      refine m2 ?_
      refine rt_nil ?_
      refine tri_region ?_
      refine m1 ?_
      refine grd_elim h fun g6 h => ?_
      refine s_addI rfl rfl rfl rfl g6 rfl rfl rfl ?_
      refine m2 ?_
      refine rt_nil ?_
      refine Exists.intro ⟨(f0, v0_0 ++ [p0.extract v0_1.toNat v0_2.toNat], v0_2 + 1, v0_2 + 1), h⟩ (And.intro (Nat.lt_succ_self _) ?_)
      refine entX [((2003, 0), ⟨9, 1, List.map strV (v0_0 ++ [p0.extract v0_1.toNat v0_2.toNat]), false, true⟩, some (33, 0))] [] ⟨⟨rfl, _, rfl, rfl, rfl, rfl, id, rowsCv_eq rfl (allFree_map strV_free), rowsZ_map strV_len⟩, trivial⟩ trivial rfl rfl ?_
      exact ⟨(.free rfl), (.ref rfl), (.free rfl), (.free rfl), trivial⟩
     ·replace h := cond_f h c2
      refine tri_skip ?_
      refine tri_region ?_
      refine m1 ?_
      refine grd_elim h fun g7 h => ?_
      refine s_addI rfl rfl rfl rfl g7 rfl rfl rfl ?_
      refine m2 ?_
      refine rt_nil ?_
      refine Exists.intro ⟨(f0, v0_0, v0_1, v0_2 + 1), h⟩ (And.intro (Nat.lt_succ_self _) ?_)
      refine entX [((2003, 0), ⟨9, 1, List.map strV v0_0, false, true⟩, some (2003, 0))] [] ⟨⟨rfl, _, rfl, rfl, rfl, rfl, id, rowsCv_eq rfl (allFree_map strV_free), rowsZ_map strV_len⟩, trivial⟩ trivial rfl rfl ?_
      exact ⟨(.free rfl), (.ref rfl), (.free rfl), (.free rfl), trivial⟩
   ·replace h := cond_f h c1
    refine tri_exit ?_
    refine tri_sr ?_
    refine m1 ?_
    refine m2 ?_
    refine rt_nil ?_
    refine tri_ret ?_
    have e0 := (some1 h); subst e0
    exact endY (v' := .ref (2000, 0) 0 v0_0.length) [((2000, 0), ⟨9, 1, List.map strV v0_0, false, true⟩, some (2003, 0))] [] (rvC (resTmp rfl) rvN) ⟨⟨rfl, _, rfl, rfl, rfl, rfl, id, rowsCv_eq rfl (allFree_map strV_free), rowsZ_map strV_len⟩, trivial⟩ trivial rfl rfl (by kernel_rfl) (by simp only [V.mat, V.mat1, V.mat0, matL, matT, List.length_map] <;> rfl) (.ref rfl)

/- spec.LessName -/
def inv_s_LessName_2 (x1 : List ByteArray) (x3 : List ByteArray) (v1_0 : Int) (j2_0 : Bool) : St := mkT 51 [(5, .ref (11, 0) 0 x1.length), (6, .ref (13, 0) 0 x3.length), (7, .sc (.int .i64 v1_0)), (23, .sc (.bool j2_0))] [((11, 0), some ⟨9, 1, List.map strV x1, false, true⟩), ((13, 0), some ⟨9, 1, List.map strV x3, false, true⟩)]
def inv_s_LessName_1 (x1 : List ByteArray) (x3 : List ByteArray) (v1_0 : Int) : St := mkT 51 [(5, .ref (11, 0) 0 x1.length), (6, .ref (13, 0) 0 x3.length), (7, .sc (.int .i64 v1_0))] [((11, 0), some ⟨9, 1, List.map strV x1, false, true⟩), ((13, 0), some ⟨9, 1, List.map strV x3, false, true⟩)]
def inv_s_LessName_0 (x1 : List ByteArray) (x3 : List ByteArray) : St := mkT 51 [(5, .ref (11, 0) 0 x1.length), (6, .ref (13, 0) 0 x3.length)] [((11, 0), some ⟨9, 1, List.map strV x1, false, true⟩), ((13, 0), some ⟨9, 1, List.map strV x3, false, true⟩)]
set_option maxRecDepth 4000 in
set_option maxHeartbeats 800000 in
theorem ws_LessName (p0 : ByteArray) (p1 : ByteArray) (r0 : Bool) (h : s_LessName p0 p1 = some r0) : Runs Tryd.prog 194 [.sc (.string p0), .sc (.string p1)] [] (.sc (.bool r0)) [] := by
 unfold s_LessName at h
 refine runsR [.tmp 4] Tryd.func194 rfl rfl rfl rfl ?_
 rw [Tryd.ntmps194]
 refine tri_sr ?_
 refine s_mv (.inr rfl) (v := .sc (.bool false)) rfl rfl rfl rfl ?_
 refine rt_nil ?_
 refine tri_sr ?_
 refine m1 ?_
 refine bnd1_elim h fun x1 q2 h => ?_
 refine s_callN (kb := []) (ns := []) (v := .ref (11, 0) 0 x1.length) rfl rfl cl176 (ws_Labels p0 x1 q2) rfl (.cons (.free rfl) .nil) trivial memNil .nil memNil rfl ⟨(allSc_map strV_sc), trivial⟩ memNil rfl (by simp only [V.mat, V.mat1, V.mat0, matL, matT, List.length_map] <;> rfl) rfl rfl rfl rfl ?_
 refine m2 ?_
 refine rt_nil ?_
 refine tri_sr ?_
 refine m1 ?_
 refine bnd1_elim h fun x3 q4 h => ?_
 refine s_callN (kb := []) (ns := []) (v := .ref (13, 0) 0 x3.length) rfl rfl cl176 (ws_Labels p1 x3 q4) rfl (.cons (.free rfl) .nil) trivial memNil .nil memNil rfl ⟨(allSc_map strV_sc), trivial⟩ memNil rfl (by simp only [V.mat, V.mat1, V.mat0, matL, matT, List.length_map] <;> rfl) rfl rfl rfl rfl ?_
 refine m2 ?_
 refine rt_nil ?_
 refine tri_cutI (ι := { p : Unit // s_LessName_j0 x1 x3 = some r0 }) (fun p => inv_s_LessName_0 x1 x3) ?_ ?_
 ·skip
  refine tri_sr ?_
  refine s_mv (.inr rfl) (v := .sc (.int .i64 1)) rfl rfl rfl rfl ?_
  refine rt_nil ?_
  refine tri_block ?_
  refine tri_loop (ι := { p : Nat × Int // s_LessName_l1 x1 x3 p.1 p.2 = some r0 }) (fun p => inv_s_LessName_1 x1 x3 p.1.2) (fun p => p.1.1) ⟨(fuel0, 1), h⟩ ?_ ?_
  ·skip
   refine entX [((11, 0), ⟨9, 1, List.map strV x1, false, true⟩, some (11, 0)), ((13, 0), ⟨9, 1, List.map strV x3, false, true⟩, some (13, 0))] [] ⟨⟨rfl, _, rfl, rfl, rfl, rfl, id, rowsCv_eq rfl (allFree_map strV_free), rowsZ_map strV_len⟩, ⟨rfl, _, rfl, rfl, rfl, rfl, id, rowsCv_eq rfl (allFree_map strV_free), rowsZ_map strV_len⟩, trivial⟩ trivial rfl rfl ?_
   exact ⟨(.ref rfl), (.ref rfl), (.free rfl), trivial⟩
  ·rintro ⟨⟨f1, v1_0⟩, h⟩
   replace h : s_LessName_l1 x1 x3 f1 v1_0 = some r0 := h
   cases f1 with
   | zero => cases h
   | succ f1 =>
   rw [s_LessName_l1] at h
   show Tri _ _ _ (inv_s_LessName_1 x1 x3 v1_0)
   refine tri_seq ?_
   refine tri_cutI (ι := { p : Bool // s_LessName_j2 x1 x3 v1_0 (s_LessName_l1 x1 x3 f1) p = some r0 }) (fun p => inv_s_LessName_2 x1 x3 v1_0 p.1) ?_ ?_
   ·skip
    refine tri_region ?_
    refine m1 ?_
    refine m1 ?_
    refine s_len (m := x1.length) rfl sl33 rfl rfl rfl rfl ?_
    refine s_of (st_leq rfl rfl rfl) rfl rfl rfl rfl ?_
    refine m1 ?_
    refine s_split (t := 18) rfl (fun b5 => ?_) (fun b5 => ?_)
    ·replace h := cond_t h b5
     refine m1 ?_
     refine m1 ?_
     refine s_len (m := x3.length) rfl sl33 rfl rfl rfl rfl ?_
     refine s_of (st_leq rfl rfl rfl) rfl rfl rfl rfl ?_
     refine s_pickT rfl rfl (by conv => lhs; whnf) rfl rfl rfl ?_
     refine rt_nil ?_
     refine Exists.intro ⟨decide (v1_0 ≤ (x3.length : Int)), h⟩ ?_
     refine entX [((11, 0), ⟨9, 1, List.map strV x1, false, true⟩, some (11, 0)), ((13, 0), ⟨9, 1, List.map strV x3, false, true⟩, some (13, 0))] [] ⟨⟨rfl, _, rfl, rfl, rfl, rfl, id, rowsCv_eq rfl (allFree_map strV_free), rowsZ_map strV_len⟩, ⟨rfl, _, rfl, rfl, rfl, rfl, id, rowsCv_eq rfl (allFree_map strV_free), rowsZ_map strV_len⟩, trivial⟩ trivial rfl rfl ?_
     exact ⟨(.ref rfl), (.ref rfl), (.free rfl), (.free rfl), trivial⟩
    ·replace h := cond_f h b5
     refine s_skip rfl rfl rfl ?_
     refine s_skip rfl rfl rfl ?_
     refine s_skip rfl rfl rfl ?_
     refine s_skip rfl rfl rfl ?_
     refine s_pickF rfl rfl (v := .sc (.bool false)) rfl rfl rfl rfl ?_
     refine rt_nil ?_
     refine Exists.intro ⟨false, h⟩ ?_
     refine entX [((11, 0), ⟨9, 1, List.map strV x1, false, true⟩, some (11, 0)), ((13, 0), ⟨9, 1, List.map strV x3, false, true⟩, some (13, 0))] [] ⟨⟨rfl, _, rfl, rfl, rfl, rfl, id, rowsCv_eq rfl (allFree_map strV_free), rowsZ_map strV_len⟩, ⟨rfl, _, rfl, rfl, rfl, rfl, id, rowsCv_eq rfl (allFree_map strV_free), rowsZ_map strV_len⟩, trivial⟩ trivial rfl rfl ?_
     exact ⟨(.ref rfl), (.ref rfl), (.free rfl), (.free rfl), trivial⟩
   ·rintro ⟨j2_0, h⟩
    replace h : s_LessName_j2 x1 x3 v1_0 (s_LessName_l1 x1 x3 f1) j2_0 = some r0 := h
    unfold s_LessName_j2 at h
    show Tri _ _ _ (inv_s_LessName_2 x1 x3 v1_0 j2_0)
    refine tri_cond rfl (fun c5 => ?_) (fun c5 => ?_)
    ·replace h := cond_t h c5
     refine tri_skip ?_
     refine tri_seq ?_
     refine tri_block ?_
     refine tri_sr ?_
     refine m1 ?_
     refine m1 ?_
     refine s_len (m := x1.length) rfl sl33 rfl rfl rfl rfl ?_
     refine m1 ?_
     refine grd_elim h fun g6 h => ?_
     refine s_subI rfl rfl rfl rfl g6 rfl rfl rfl ?_
     refine bnd1_elim h fun x7 q8 h => ?_
     have q8a := (idx_some q8).1; have q8b := (idx_some q8).2
     refine s_indexZ rfl rfl rfl rfl sl33 rfl q8a (get_lt q8b) rfl rfl rfl ?_
     refine s_load rfl rfl rfl (rowG q8b) ty9 rfl (.inr rfl) (by conv => lhs; whnf) rfl rfl rfl ?_
     refine m2 ?_
     refine rt_nil ?_
     refine tri_sr ?_
     refine m1 ?_
     refine m1 ?_
     refine s_len (m := x3.length) rfl sl33 rfl rfl rfl rfl ?_
     refine m1 ?_
     refine grd_elim h fun g9 h => ?_
     refine s_subI rfl rfl rfl rfl g9 rfl rfl rfl ?_
     refine bnd1_elim h fun x10 q11 h => ?_
     have q11a := (idx_some q11).1; have q11b := (idx_some q11).2
     refine s_indexZ rfl rfl rfl rfl sl33 rfl q11a (get_lt q11b) rfl rfl rfl ?_
     refine s_load rfl rfl rfl (rowG q11b) ty9 rfl (.inr rfl) (by conv => lhs; whnf) rfl rfl rfl ?_
     refine m2 ?_
     refine rt_nil ?_
     refine tri_sr ?_
     refine m1 ?_
     refine m1 ?_
     refine s_of (st_neS rfl rfl rfl) rfl rfl rfl rfl ?_
     refine rt_nil ?_
     refine tri_cond rfl (fun c12 => ?_) (fun c12 => ?_)
     ·replace h := cond_t h c12
      refine tri_sr ?_
      refine m1 ?_
      refine m1 ?_
      refine s_of (st_ltS rfl rfl rfl) rfl rfl rfl rfl ?_
      refine m2 ?_
      refine rt_nil ?_
      refine tri_ret ?_
      have e0 := (some1 h); subst e0
      exact endY [] [] (rvC (resTmp rfl) rvN) trivial trivial rfl rfl rfl rfl (.free rfl)
     ·replace h := cond_f h c12
      refine tri_skip ?_
      refine tri_region ?_
      refine m1 ?_
      refine grd_elim h fun g13 h => ?_
      refine s_addI rfl rfl rfl rfl g13 rfl rfl rfl ?_
      refine m2 ?_
      refine rt_nil ?_
      refine Exists.intro ⟨(f1, v1_0 + 1), h⟩ (And.intro (Nat.lt_succ_self _) ?_)
      refine entX [((11, 0), ⟨9, 1, List.map strV x1, false, true⟩, some (11, 0)), ((13, 0), ⟨9, 1, List.map strV x3, false, true⟩, some (13, 0))] [] ⟨⟨rfl, _, rfl, rfl, rfl, rfl, id, rowsCv_eq rfl (allFree_map strV_free), rowsZ_map strV_len⟩, ⟨rfl, _, rfl, rfl, rfl, rfl, id, rowsCv_eq rfl (allFree_map strV_free), rowsZ_map strV_len⟩, trivial⟩ trivial rfl rfl ?_
      exact ⟨(.ref rfl), (.ref rfl), (.free rfl), trivial⟩
    ·replace h := cond_f h c5
     refine tri_exit ?_
     refine Exists.intro ⟨(), h⟩ ?_
     refine entX [((11, 0), ⟨9, 1, List.map strV x1, false, true⟩, some (11, 0)), ((13, 0), ⟨9, 1, List.map strV x3, false, true⟩, some (13, 0))] [] ⟨⟨rfl, _, rfl, rfl, rfl, rfl, id, rowsCv_eq rfl (allFree_map strV_free), rowsZ_map strV_len⟩, ⟨rfl, _, rfl, rfl, rfl, rfl, id, rowsCv_eq rfl (allFree_map strV_free), rowsZ_map strV_len⟩, trivial⟩ trivial rfl rfl ?_
     exact ⟨(.ref rfl), (.ref rfl), trivial⟩
 ·rintro ⟨u, h⟩
  replace h : s_LessName_j0 x1 x3 = some r0 := h
  unfold s_LessName_j0 at h
  show Tri _ _ _ (inv_s_LessName_0 x1 x3)
  refine tri_sr ?_
  refine m1 ?_
  refine s_len (m := x1.length) rfl sl33 rfl rfl rfl rfl ?_
  refine m1 ?_
  refine s_len (m := x3.length) rfl sl33 rfl rfl rfl rfl ?_
  refine s_of (st_lss rfl rfl rfl) rfl rfl rfl rfl ?_
  refine m2 ?_
  refine rt_nil ?_
  refine tri_ret ?_
  have e0 := (some1 h); subst e0
  exact endY [] [] (rvC (resTmp rfl) rvN) trivial trivial rfl rfl rfl rfl (.free rfl)

/- spec.LessRecord -/

set_option maxRecDepth 4000 in
set_option maxHeartbeats 800000 in
theorem ws_LessRecord (p0 : Rec) (p1 : Rec) (r0 : Bool) (h : s_LessRecord p0 p1 = some r0) : Runs Tryd.prog 166 [.agg (recV p0), .agg (recV p1)] [] (.sc (.bool r0)) [] := by
 unfold s_LessRecord at h
 refine runsR [.tmp 4] Tryd.func166 rfl rfl rfl rfl ?_
 rw [Tryd.ntmps166]
 refine tri_sr ?_
 refine s_box rfl rfl rfl rfl rfl rfl rfl ?_
 refine s_box rfl rfl rfl rfl rfl rfl rfl ?_
 refine s_mv (.inr rfl) (v := .sc (.bool false)) rfl rfl rfl rfl ?_
 refine rt_nil ?_
 refine tri_seq ?_
 refine tri_block ?_
 refine tri_sr ?_
 refine s_fieldAddr rfl rfl fd39_0 rfl rfl rfl rfl ?_
 refine s_load rfl rfl rfl rfl ty9 rfl (.inr rfl) (by conv => lhs; whnf) rfl rfl rfl ?_
 refine s_fieldAddr rfl rfl fd39_0 rfl rfl rfl rfl ?_
 refine s_load rfl rfl rfl rfl ty9 rfl (.inr rfl) (by conv => lhs; whnf) rfl rfl rfl ?_
 refine s_of (st_neS rfl rfl rfl) rfl rfl rfl rfl ?_
 refine m2 ?_
 refine rt_nil ?_
 refine tri_cond rfl (fun c1 => ?_) (fun c1 => ?_)
 ·replace h := cond_t h c1
  refine tri_sr ?_
  refine s_fieldAddr rfl rfl fd39_0 rfl rfl rfl rfl ?_
  refine s_load rfl rfl rfl rfl ty9 rfl (.inr rfl) (by conv => lhs; whnf) rfl rfl rfl ?_
  refine s_fieldAddr rfl rfl fd39_0 rfl rfl rfl rfl ?_
  refine s_load rfl rfl rfl rfl ty9 rfl (.inr rfl) (by conv => lhs; whnf) rfl rfl rfl ?_
  refine bnd1_elim h fun x2 q3 h => ?_
  refine s_callN (kb := []) (ns := []) (v := .sc (.bool x2)) rfl rfl cl194 (ws_LessName p0.name p1.name x2 q3) rfl (.cons (.free rfl) (.cons (.free rfl) .nil)) trivial memNil .nil memNil rfl trivial memNil rfl rfl rfl rfl rfl rfl ?_
  refine m2 ?_
  refine rt_nil ?_
  refine tri_ret ?_
  have e0 := (some1 h); subst e0
  exact endY [] [] (rvC (resTmp rfl) rvN) trivial trivial rfl rfl rfl rfl (.free rfl)
 ·replace h := cond_f h c1
  refine tri_sr ?_
  refine s_fieldAddr rfl rfl fd39_1 rfl rfl rfl rfl ?_
  refine s_load rfl rfl rfl rfl ty3 rfl (.inr rfl) (by conv => lhs; whnf) rfl rfl rfl ?_
  refine s_fieldAddr rfl rfl fd39_1 rfl rfl rfl rfl ?_
  refine s_load rfl rfl rfl rfl ty3 rfl (.inr rfl) (by conv => lhs; whnf) rfl rfl rfl ?_
  refine s_of (st_neI rfl rfl rfl) rfl rfl rfl rfl ?_
  refine m2 ?_
  refine rt_nil ?_
  refine tri_cond rfl (fun c4 => ?_) (fun c4 => ?_)
  ·replace h := cond_t h c4
   refine tri_sr ?_
   refine s_fieldAddr rfl rfl fd39_1 rfl rfl rfl rfl ?_
   refine s_load rfl rfl rfl rfl ty3 rfl (.inr rfl) (by conv => lhs; whnf) rfl rfl rfl ?_
   refine s_fieldAddr rfl rfl fd39_1 rfl rfl rfl rfl ?_
   refine s_load rfl rfl rfl rfl ty3 rfl (.inr rfl) (by conv => lhs; whnf) rfl rfl rfl ?_
   refine s_of (st_lss rfl rfl rfl) rfl rfl rfl rfl ?_
   refine m2 ?_
   refine rt_nil ?_
   refine tri_ret ?_
   have e0 := (some1 h); subst e0
   exact endY [] [] (rvC (resTmp rfl) rvN) trivial trivial rfl rfl rfl rfl (.free rfl)
  ·replace h := cond_f h c4
   refine tri_sr ?_
   refine s_fieldAddr rfl rfl fd39_3 rfl rfl rfl rfl ?_
   refine s_load rfl rfl rfl rfl ty3 rfl (.inr rfl) (by conv => lhs; whnf) rfl rfl rfl ?_
   refine s_fieldAddr rfl rfl fd39_3 rfl rfl rfl rfl ?_
   refine s_load rfl rfl rfl rfl ty3 rfl (.inr rfl) (by conv => lhs; whnf) rfl rfl rfl ?_
   refine s_of (st_neI rfl rfl rfl) rfl rfl rfl rfl ?_
   refine m2 ?_
   refine rt_nil ?_
   refine tri_cond rfl (fun c5 => ?_) (fun c5 => ?_)
   ·replace h := cond_t h c5
    refine tri_sr ?_
    refine s_fieldAddr rfl rfl fd39_3 rfl rfl rfl rfl ?_
    refine s_load rfl rfl rfl rfl ty3 rfl (.inr rfl) (by conv => lhs; whnf) rfl rfl rfl ?_
    refine s_fieldAddr rfl rfl fd39_3 rfl rfl rfl rfl ?_
    refine s_load rfl rfl rfl rfl ty3 rfl (.inr rfl) (by conv => lhs; whnf) rfl rfl rfl ?_
    refine s_of (st_lss rfl rfl rfl) rfl rfl rfl rfl ?_
    refine m2 ?_
    refine rt_nil ?_
    refine tri_ret ?_
    have e0 := (some1 h); subst e0
    exact endY [] [] (rvC (resTmp rfl) rvN) trivial trivial rfl rfl rfl rfl (.free rfl)
   ·replace h := cond_f h c5
    refine tri_sr ?_
    refine s_fieldAddr rfl rfl fd39_4 rfl rfl rfl rfl ?_
    refine s_load rfl rfl rfl rfl ty9 rfl (.inr rfl) (by conv => lhs; whnf) rfl rfl rfl ?_
    refine s_fieldAddr rfl rfl fd39_4 rfl rfl rfl rfl ?_
    refine s_load rfl rfl rfl rfl ty9 rfl (.inr rfl) (by conv => lhs; whnf) rfl rfl rfl ?_
    refine s_of (st_neS rfl rfl rfl) rfl rfl rfl rfl ?_
    refine m2 ?_
    refine rt_nil ?_
    refine tri_cond rfl (fun c6 => ?_) (fun c6 => ?_)
    ·replace h := cond_t h c6
     refine tri_sr ?_
     refine s_fieldAddr rfl rfl fd39_4 rfl rfl rfl rfl ?_
     refine s_load rfl rfl rfl rfl ty9 rfl (.inr rfl) (by conv => lhs; whnf) rfl rfl rfl ?_
     refine s_fieldAddr rfl rfl fd39_4 rfl rfl rfl rfl ?_
     refine s_load rfl rfl rfl rfl ty9 rfl (.inr rfl) (by conv => lhs; whnf) rfl rfl rfl ?_
     refine bnd1_elim h fun x7 q8 h => ?_
     refine s_callN (kb := []) (ns := []) (v := .sc (.bool x7)) rfl rfl cl194 (ws_LessName p0.host p1.host x7 q8) rfl (.cons (.free rfl) (.cons (.free rfl) .nil)) trivial memNil .nil memNil rfl trivial memNil rfl rfl rfl rfl rfl rfl ?_
     refine m2 ?_
     refine rt_nil ?_
     refine tri_ret ?_
     have e0 := (some1 h); subst e0
     exact endY [] [] (rvC (resTmp rfl) rvN) trivial trivial rfl rfl rfl rfl (.free rfl)
    ·replace h := cond_f h c6
     refine tri_sr ?_
     refine s_fieldAddr rfl rfl fd39_5 rfl rfl rfl rfl ?_
     refine s_load rfl rfl rfl rfl ty9 rfl (.inr rfl) (by conv => lhs; whnf) rfl rfl rfl ?_
     refine s_fieldAddr rfl rfl fd39_5 rfl rfl rfl rfl ?_
     refine s_load rfl rfl rfl rfl ty9 rfl (.inr rfl) (by conv => lhs; whnf) rfl rfl rfl ?_
     refine s_of (st_neS rfl rfl rfl) rfl rfl rfl rfl ?_
     refine m2 ?_
     refine rt_nil ?_
     refine tri_cond rfl (fun c9 => ?_) (fun c9 => ?_)
     ·replace h := cond_t h c9
      refine tri_sr ?_
      refine s_fieldAddr rfl rfl fd39_5 rfl rfl rfl rfl ?_
      refine s_load rfl rfl rfl rfl ty9 rfl (.inr rfl) (by conv => lhs; whnf) rfl rfl rfl ?_
      refine s_fieldAddr rfl rfl fd39_5 rfl rfl rfl rfl ?_
      refine s_load rfl rfl rfl rfl ty9 rfl (.inr rfl) (by conv => lhs; whnf) rfl rfl rfl ?_
      refine s_of (st_ltS rfl rfl rfl) rfl rfl rfl rfl ?_
      refine m2 ?_
      refine rt_nil ?_
      refine tri_ret ?_
      have e0 := (some1 h); subst e0
      exact endY [] [] (rvC (resTmp rfl) rvN) trivial trivial rfl rfl rfl rfl (.free rfl)
     ·replace h := cond_f h c9
      refine tri_skip ?_
      refine tri_sr ?_
      refine s_fieldAddr rfl rfl fd39_2 rfl rfl rfl rfl ?_
      refine s_load rfl rfl rfl rfl ty3 rfl (.inr rfl) (by conv => lhs; whnf) rfl rfl rfl ?_
      refine s_fieldAddr rfl rfl fd39_2 rfl rfl rfl rfl ?_
      refine s_load rfl rfl rfl rfl ty3 rfl (.inr rfl) (by conv => lhs; whnf) rfl rfl rfl ?_
      refine s_of (st_lss rfl rfl rfl) rfl rfl rfl rfl ?_
      refine m2 ?_
      refine rt_nil ?_
      refine tri_ret ?_
      have e0 := (some1 h); subst e0
      exact endY [] [] (rvC (resTmp rfl) rvN) trivial trivial rfl rfl rfl rfl (.free rfl)

/- spec.SortRecords -/
def inv_s_SortRecords_3 (p0 : List Rec) (v0_0 : List Rec) (v0_1 : Nat) (v2_0 : Int) (j3_0 : Bool) : St := mkT 47 [(0, .lst 6 (List.map recV p0)), (3, .ref (2003, 0) 0 v0_0.length), (4, .sc (.int .i64 (v0_1 : Int))), (5, .sc (.int .i64 v2_0)), (28, .sc (.bool j3_0))] [((2003, 0), some ⟨39, 6, List.map recV v0_0, false, true⟩)]
def inv_s_SortRecords_2 (p0 : List Rec) (v0_0 : List Rec) (v0_1 : Nat) (v2_0 : Int) : St := mkT 47 [(0, .lst 6 (List.map recV p0)), (3, .ref (2003, 0) 0 v0_0.length), (4, .sc (.int .i64 (v0_1 : Int))), (5, .sc (.int .i64 v2_0))] [((2003, 0), some ⟨39, 6, List.map recV v0_0, false, true⟩)]
def inv_s_SortRecords_1 (p0 : List Rec) (v0_0 : List Rec) (v0_1 : Nat) (j1_0 : Int) : St := mkT 47 [(0, .lst 6 (List.map recV p0)), (3, .ref (2003, 0) 0 v0_0.length), (4, .sc (.int .i64 (v0_1 : Int))), (5, .sc (.int .i64 j1_0))] [((2003, 0), some ⟨39, 6, List.map recV v0_0, false, true⟩)]
def inv_s_SortRecords_0 (p0 : List Rec) (v0_0 : List Rec) (v0_1 : Nat) : St := mkT 47 [(0, .lst 6 (List.map recV p0)), (3, .ref (2003, 0) 0 v0_0.length), (4, .sc (.int .i64 (v0_1 : Int)))] [((2003, 0), some ⟨39, 6, List.map recV v0_0, false, true⟩)]
set_option maxRecDepth 4000 in
set_option maxHeartbeats 800000 in
theorem ws_SortRecords (p0 : List Rec) (r0 : List Rec) (h : s_SortRecords p0 = some r0) : Runs Tryd.prog 115 [.lst 6 (List.map recV p0)] [] (.own 39 6 (List.map recV r0)) [] := by
 unfold s_SortRecords at h
 refine runsR [.tmp 2] Tryd.func115 rfl rfl rfl rfl ?_
 rw [Tryd.ntmps115]
 refine tri_sr ?_
 refine s_mv (.inr rfl) (v := .nils) rfl rfl rfl rfl ?_
 refine rt_nil ?_
 refine tri_sr ?_
 refine s_buildSlice (rows' := List.map recV ([] : List Rec)) rfl rfl rfl sl24 zc39 rfl rfl rfl rfl rfl rfl rfl rfl rfl ?_
 refine m2 ?_
 refine rt_nil ?_
 refine tri_seq ?_
 refine tri_sr ?_
 refine s_mv (.inr rfl) (v := .sc (.int .i64 0)) rfl rfl rfl rfl ?_
 refine rt_nil ?_
 refine tri_block ?_
 refine tri_lstM 0 rfl (fun hl0 => ?_)
 refine tri_loop (ι := { p : (List Rec) × (List Rec) × Nat // p0.drop p.2.2 = p.1 ∧ s_SortRecords_l0 p.1 p.2.1 p.2.2 = some r0 }) (fun p => inv_s_SortRecords_0 p0 p.1.2.1 p.1.2.2) (fun p => p.1.1.length) ⟨(p0, ([] : List Rec), 0), rfl, h⟩ ?_ ?_
 ·skip
  refine entX [((2003, 0), ⟨39, 6, List.map recV ([] : List Rec), false, true⟩, some (6, 0))] [] ⟨⟨rfl, _, rfl, rfl, rfl, rfl, id, rowsCv_eq rfl (allFree_map recV_free), rowsZ_map recV_len⟩, trivial⟩ trivial rfl rfl ?_
  exact ⟨(.free rfl), (.ref rfl), (.free rfl), trivial⟩
 ·rintro ⟨⟨lrs0, v0_0, v0_1⟩, hd0, h⟩
  replace hd0 : p0.drop v0_1 = lrs0 := hd0
  replace h : s_SortRecords_l0 lrs0 v0_0 v0_1 = some r0 := h
  show Tri _ _ _ (inv_s_SortRecords_0 p0 v0_0 v0_1)
  refine tri_seq ?_
  refine tri_sr ?_
  refine m1 ?_
  refine m1 ?_
  refine s_lenL rfl sl24 rfl rfl rfl rfl ?_
  refine s_of (st_lss rfl rfl rfl) rfl rfl rfl rfl ?_
  refine rt_nil ?_
  refine tri_cond rfl (fun c1 => ?_) (fun c1 => ?_)
  ·refine drop_elim hd0 c1 fun e0 rs0 he hx0 hn0 => ?_
   subst he
   rw [s_SortRecords_l0] at h
   refine tri_skip ?_
   refine tri_seq ?_
   refine tri_block ?_
   refine tri_sr ?_
   refine m1 ?_
   refine s_len (m := v0_0.length) rfl sl24 rfl rfl rfl rfl ?_
   refine m2 ?_
   refine rt_nil ?_
   refine tri_cutI (ι := { p : Int // s_SortRecords_j1 v0_0 v0_1 e0 (s_SortRecords_l0 rs0) p = some r0 }) (fun p => inv_s_SortRecords_1 p0 v0_0 v0_1 p.1) ?_ ?_
   ·skip
    refine tri_block ?_
    refine tri_loop (ι := { p : Nat × Int // s_SortRecords_l2 v0_0 v0_1 e0 (s_SortRecords_l0 rs0) p.1 p.2 = some r0 }) (fun p => inv_s_SortRecords_2 p0 v0_0 v0_1 p.1.2) (fun p => p.1.1) ⟨(fuel0, (v0_0.length : Int)), h⟩ ?_ ?_
    ·skip
     refine entX [((2003, 0), ⟨39, 6, List.map recV v0_0, false, true⟩, some (2003, 0))] [] ⟨⟨rfl, _, rfl, rfl, rfl, rfl, id, rowsCv_eq rfl (allFree_map recV_free), rowsZ_map recV_len⟩, trivial⟩ trivial rfl rfl ?_
     exact ⟨(.free rfl), (.ref rfl), (.free rfl), (.free rfl), trivial⟩
    ·rintro ⟨⟨f2, v2_0⟩, h⟩
     replace h : s_SortRecords_l2 v0_0 v0_1 e0 (s_SortRecords_l0 rs0) f2 v2_0 = some r0 := h
     cases f2 with
     | zero => cases h
     | succ f2 =>
     rw [s_SortRecords_l2] at h
     show Tri _ _ _ (inv_s_SortRecords_2 p0 v0_0 v0_1 v2_0)
     refine tri_seq ?_
     refine tri_cutI (ι := { p : Bool // s_SortRecords_j3 v0_0 v0_1 e0 v2_0 (s_SortRecords_l0 rs0) (s_SortRecords_l2 v0_0 v0_1 e0 (s_SortRecords_l0 rs0) f2) p = some r0 }) (fun p => inv_s_SortRecords_3 p0 v0_0 v0_1 v2_0 p.1) ?_ ?_
     ·skip
      refine tri_draw mixed ?_
      refine m1 ?_
      refine s_of (st_gtr rfl rfl rfl) rfl rfl rfl rfl ?_
      refine m1 ?_
      refine s_split (t := 17) rfl (fun b2 => ?_) (fun b2 => ?_)
      ·replace h := cond_t h b2
       refine m1 ?_
       refine m1 ?_
       refine s_indexF (i := v0_1) rfl rfl rfl sl24 (get_ltM hx0) rfl rfl rfl ?_
       refine s_loadFR rfl rfl (rowG hx0) ty39 rfl rfl rfl ?_
       refine m1 ?_
       refine m1 ?_
       refine grd_elim h fun g3 h => ?_
       refine s_subI rfl rfl rfl rfl g3 rfl rfl rfl ?_
       refine bnd1_elim h fun x4 q5 h => ?_
       have q5a := (idx_some q5).1; have q5b := (idx_some q5).2
       refine s_indexZ rfl rfl rfl rfl sl24 rfl q5a (get_lt q5b) rfl rfl rfl ?_
       refine s_loadR rfl rfl rfl (rowG q5b) ty39 rfl rfl rfl ?_
       refine bnd1_elim h fun x6 q7 h => ?_
       refine s_callN (kb := []) (ns := []) (v := .sc (.bool x6)) rfl rfl cl166 (ws_LessRecord e0 x4 x6 q7) rfl (.cons (relAgg rfl) (.cons (relAgg rfl) .nil)) trivial memNil .nil memNil rfl trivial memNil rfl rfl rfl rfl rfl rfl ?_
       refine s_pickT rfl rfl (by conv => lhs; whnf) rfl rfl rfl ?_
       refine rt_nil ⟨by kernel_rfl, ?_⟩
       refine Exists.intro ⟨x6, h⟩ ?_
       refine entX [((2003, 0), ⟨39, 6, List.map recV v0_0, false, true⟩, some (2003, 0))] [] ⟨⟨rfl, _, rfl, rfl, rfl, rfl, id, rowsCv_eq rfl (allFree_map recV_free), rowsZ_map recV_len⟩, trivial⟩ trivial rfl rfl ?_
       exact ⟨(.free rfl), (.ref rfl), (.free rfl), (.free rfl), (.free rfl), trivial⟩
      ·replace h := cond_f h b2
       refine s_skip rfl rfl rfl ?_
       refine s_skip rfl rfl rfl ?_
       refine s_skip rfl rfl rfl ?_
       refine s_skip rfl rfl rfl ?_
       refine s_skip rfl rfl rfl ?_
       refine s_skip rfl rfl rfl ?_
       refine s_skip rfl rfl rfl ?_
       refine s_skip rfl rfl rfl ?_
       refine s_skip rfl rfl rfl ?_
       refine s_skip rfl rfl rfl ?_
       refine s_pickF rfl rfl (v := .sc (.bool false)) rfl rfl rfl rfl ?_
       refine rt_nil ⟨by kernel_rfl, ?_⟩
       refine Exists.intro ⟨false, h⟩ ?_
       refine entX [((2003, 0), ⟨39, 6, List.map recV v0_0, false, true⟩, some (2003, 0))] [] ⟨⟨rfl, _, rfl, rfl, rfl, rfl, id, rowsCv_eq rfl (allFree_map recV_free), rowsZ_map recV_len⟩, trivial⟩ trivial rfl rfl ?_
       exact ⟨(.free rfl), (.ref rfl), (.free rfl), (.free rfl), (.free rfl), trivial⟩
     ·rintro ⟨j3_0, h⟩
      replace h : s_SortRecords_j3 v0_0 v0_1 e0 v2_0 (s_SortRecords_l0 rs0) (s_SortRecords_l2 v0_0 v0_1 e0 (s_SortRecords_l0 rs0) f2) j3_0 = some r0 := h
      unfold s_SortRecords_j3 at h
      show Tri _ _ _ (inv_s_SortRecords_3 p0 v0_0 v0_1 v2_0 j3_0)
      refine tri_cond rfl (fun c2 => ?_) (fun c2 => ?_)
      ·replace h := cond_t h c2
       refine tri_skip ?_
       refine tri_block ?_
       refine tri_region ?_
       refine m1 ?_
       refine grd_elim h fun g3 h => ?_
       refine s_subI rfl rfl rfl rfl g3 rfl rfl rfl ?_
       refine m2 ?_
       refine rt_nil ?_
       refine Exists.intro ⟨(f2, v2_0 - 1), h⟩ (And.intro (Nat.lt_succ_self _) ?_)
       refine entX [((2003, 0), ⟨39, 6, List.map recV v0_0, false, true⟩, some (2003, 0))] [] ⟨⟨rfl, _, rfl, rfl, rfl, rfl, id, rowsCv_eq rfl (allFree_map recV_free), rowsZ_map recV_len⟩, trivial⟩ trivial rfl rfl ?_
       exact ⟨(.free rfl), (.ref rfl), (.free rfl), (.free rfl), trivial⟩
      ·replace h := cond_f h c2
       refine tri_exit ?_
       refine Exists.intro ⟨v2_0, h⟩ ?_
       refine entX [((2003, 0), ⟨39, 6, List.map recV v0_0, false, true⟩, some (2003, 0))] [] ⟨⟨rfl, _, rfl, rfl, rfl, rfl, id, rowsCv_eq rfl (allFree_map recV_free), rowsZ_map recV_len⟩, trivial⟩ trivial rfl rfl ?_
       exact ⟨(.free rfl), (.ref rfl), (.free rfl), (.free rfl), trivial⟩
   ·rintro ⟨j1_0, h⟩
    replace h : s_SortRecords_j1 v0_0 v0_1 e0 (s_SortRecords_l0 rs0) j1_0 = some r0 := h
    unfold s_SortRecords_j1 at h
    show Tri _ _ _ (inv_s_SortRecords_1 p0 v0_0 v0_1 j1_0)
    refine tri_draw mixed ?_
    refine s_buildSlice (rows' := List.map recV ([] : List Rec)) rfl rfl rfl sl24 zc39 rfl rfl rfl rfl rfl rfl rfl rfl rfl ?_
    refine m1 ?_
    refine m1 ?_
    refine grd_elim h fun g2 h => ?_
    refine s_sliceZ (a := ((0 : Nat) : Int)) (b := j1_0) rfl rfl rfl sl24 rfl rfl ⟨_, rfl⟩ g2 rfl rfl rfl ?_
    refine grd_elim h fun g3 h => ?_
    refine s_appL rfl rfl rfl sl24 zc39 rfl rfl rfl rfl rfl rfl (src_refV rfl (by first | omega | (simp only [List.length_set]; omega))) g3 rfl rfl ?_
    refine m1 ?_
    refine m1 ?_
    refine s_indexF (i := v0_1) rfl rfl rfl sl24 (get_ltM hx0) rfl rfl rfl ?_
    refine s_loadFR rfl rfl (rowG hx0) ty39 rfl rfl rfl ?_
    refine s_buildSlice (rows' := List.map recV [e0]) rfl rfl rfl sl24 zc39 rfl rfl rfl rfl rfl rfl rfl rfl rfl ?_
    refine grd_elim h fun g4 h => ?_
    refine s_appL rfl rfl rfl sl24 zc39 rfl rfl rfl rfl rfl rfl (src_refL rfl rfl) g4 rfl rfl ?_
    refine m1 ?_
    refine m1 ?_
    refine grd_elim h fun g5 h => ?_
    refine s_sliceZ (a := j1_0) (b := (v0_0.length : Int)) rfl rfl rfl sl24 rfl ⟨_, rfl⟩ rfl g5 rfl rfl rfl ?_
    refine grd_elim h fun g6 h => ?_
    refine s_appL rfl rfl rfl sl24 zc39 rfl rfl rfl rfl rfl rfl (src_refV rfl (by first | omega | (simp only [List.length_set]; omega))) g6 rfl rfl ?_
    refine m2 ?_
    refine rt_nil ⟨by kernel_rfl, ?_⟩
    refine tri_region ?_
    refine m1 ?_
    refine s_inc (a := v0_1) (b := 1) rfl rfl rfl rfl (by have := get_lt hx0; have := hl0; omega) rfl rfl rfl ?_
    refine m2 ?_
    refine rt_nil ?_
    refine Exists.intro ⟨(rs0, ((([] : List Rec) ++ ((v0_0.drop (0 + ((0 : Nat) : Int).toNat)).take (j1_0.toNat - ((0 : Nat) : Int).toNat))) ++ [e0]) ++ ((v0_0.drop (0 + j1_0.toNat)).take ((v0_0.length : Int).toNat - j1_0.toNat)), (v0_1 + 1)), hn0, h⟩ (And.intro (Nat.lt_succ_self _) ?_)
    refine entX [((2003, 0), ⟨39, 6, List.map recV (((([] : List Rec) ++ ((v0_0.drop (0 + ((0 : Nat) : Int).toNat)).take (j1_0.toNat - ((0 : Nat) : Int).toNat))) ++ [e0]) ++ ((v0_0.drop (0 + j1_0.toNat)).take ((v0_0.length : Int).toNat - j1_0.toNat))), false, true⟩, some (45, 0))] [] ⟨⟨rfl, _, rfl, rfl, rfl, rfl, id, rowsCv_eq rfl (allFree_map recV_free), rowsZ_map recV_len⟩, trivial⟩ trivial rfl rfl ?_
    exact ⟨(.free rfl), (.ref rfl), (.free rfl), trivial⟩
  ·have he := drop_f hd0 c1; subst he
   rw [s_SortRecords_l0] at h
   refine tri_exit ?_
   refine tri_sr ?_
   refine m1 ?_
   refine m2 ?_
   refine rt_nil ?_
   refine tri_ret ?_
   have e0 := (some1 h); subst e0
   exact endY (v' := .ref (2000, 0) 0 v0_0.length) [((2000, 0), ⟨39, 6, List.map recV v0_0, false, true⟩, some (2003, 0))] [] (rvC (resTmp rfl) rvN) ⟨⟨rfl, _, rfl, rfl, rfl, rfl, id, rowsCv_eq rfl (allFree_map recV_free), rowsZ_map recV_len⟩, trivial⟩ trivial rfl rfl (by kernel_rfl) (by simp only [V.mat, V.mat1, V.mat0, matL, matT, List.length_map] <;> rfl) (.ref rfl)

/- spec.l10Uniq -/
def inv_s_l10Uniq_2 (x1 : List Rec) (v0_0 : List Rec) (v0_1 : Nat) (e0 : Rec) (j2_0 : Bool) : St := mkT 66 [(3, .ref (9, 0) 0 x1.length), (4, .ref (2004, 0) 0 v0_0.length), (5, .sc (.int .i64 (v0_1 : Int))), (6, .ptr (6, 0) 0 0), (7, .sc (.int .i64 (v0_0.length : Int))), (46, .sc (.bool j2_0))] [((9, 0), some ⟨39, 6, List.map recV x1, false, true⟩), ((2004, 0), some ⟨39, 6, List.map recV v0_0, false, true⟩), ((6, 0), some ⟨39, 6, [[.sc (.string e0.name), .sc (.int .i64 e0.ty), .sc (.int .i64 e0.ttl), .sc (.int .i64 e0.n), .sc (.string e0.host), .sc (.string e0.text)]], false, true⟩)]
def inv_s_l10Uniq_1 (x1 : List Rec) (v0_0 : List Rec) (v0_1 : Nat) (e0 : Rec) (j1_0 : Int) : St := mkT 66 [(3, .ref (9, 0) 0 x1.length), (4, .ref (2004, 0) 0 v0_0.length), (5, .sc (.int .i64 (v0_1 : Int))), (6, .ptr (6, 0) 0 0)] [((9, 0), some ⟨39, 6, List.map recV x1, false, true⟩), ((2004, 0), some ⟨39, 6, List.map recV v0_0, false, true⟩), ((6, 0), some ⟨39, 6, [[.sc (.string e0.name), .sc (.int .i64 e0.ty), .sc (.int .i64 j1_0), .sc (.int .i64 e0.n), .sc (.string e0.host), .sc (.string e0.text)]], false, true⟩)]
def inv_s_l10Uniq_0 (x1 : List Rec) (v0_0 : List Rec) (v0_1 : Nat) : St := mkT 66 [(3, .ref (9, 0) 0 x1.length), (4, .ref (2004, 0) 0 v0_0.length), (5, .sc (.int .i64 (v0_1 : Int)))] [((9, 0), some ⟨39, 6, List.map recV x1, false, true⟩), ((2004, 0), some ⟨39, 6, List.map recV v0_0, false, true⟩)]
set_option maxRecDepth 4000 in
set_option maxHeartbeats 800000 in
theorem ws_l10Uniq (p0 : List Rec) (r0 : List Rec) (h : s_l10Uniq p0 = some r0) : Runs Tryd.prog 144 [.lst 6 (List.map recV p0)] [] (.own 39 6 (List.map recV r0)) [] := by
 unfold s_l10Uniq at h
 refine runsR [.tmp 2] Tryd.func144 rfl rfl rfl rfl ?_
 rw [Tryd.ntmps144]
 refine tri_sr ?_
 refine s_mv (.inr rfl) (v := .nils) rfl rfl rfl rfl ?_
 refine rt_nil ?_
 refine tri_sr ?_
 refine m1 ?_
 refine bnd1_elim h fun x1 q2 h => ?_
 refine s_callN (kb := []) (ns := []) (v := .ref (9, 0) 0 x1.length) rfl rfl cl115 (ws_SortRecords p0 x1 q2) rfl (.cons (.free rfl) .nil) trivial memNil .nil memNil rfl ⟨(allSc_map recV_sc), trivial⟩ memNil rfl (by simp only [V.mat, V.mat1, V.mat0, matL, matT, List.length_map] <;> rfl) rfl rfl rfl rfl ?_
 refine m2 ?_
 refine rt_nil ?_
 refine tri_sr ?_
 refine s_buildSlice (rows' := List.map recV ([] : List Rec)) rfl rfl rfl sl24 zc39 rfl rfl rfl rfl rfl rfl rfl rfl rfl ?_
 refine m2 ?_
 refine rt_nil ?_
 refine tri_seq ?_
 refine tri_sr ?_
 refine s_mv (.inr rfl) (v := .sc (.int .i64 0)) rfl rfl rfl rfl ?_
 refine rt_nil ?_
 refine tri_block ?_
 refine tri_ownM (9, 0) rfl (fun hl0 => ?_)
 refine tri_loop (ι := { p : (List Rec) × (List Rec) × Nat // x1.drop p.2.2 = p.1 ∧ s_l10Uniq_l0 p.1 p.2.1 p.2.2 = some r0 }) (fun p => inv_s_l10Uniq_0 x1 p.1.2.1 p.1.2.2) (fun p => p.1.1.length) ⟨(x1, ([] : List Rec), 0), rfl, h⟩ ?_ ?_
 ·skip
  refine entX [((9, 0), ⟨39, 6, List.map recV x1, false, true⟩, some (9, 0)), ((2004, 0), ⟨39, 6, List.map recV ([] : List Rec), false, true⟩, some (10, 0))] [] ⟨⟨rfl, _, rfl, rfl, rfl, rfl, id, rowsCv_eq rfl (allFree_map recV_free), rowsZ_map recV_len⟩, ⟨rfl, _, rfl, rfl, rfl, rfl, id, rowsCv_eq rfl (allFree_map recV_free), rowsZ_map recV_len⟩, trivial⟩ trivial rfl rfl ?_
  exact ⟨(.ref rfl), (.ref rfl), (.free rfl), trivial⟩
 ·rintro ⟨⟨lrs0, v0_0, v0_1⟩, hd0, h⟩
  replace hd0 : x1.drop v0_1 = lrs0 := hd0
  replace h : s_l10Uniq_l0 lrs0 v0_0 v0_1 = some r0 := h
  show Tri _ _ _ (inv_s_l10Uniq_0 x1 v0_0 v0_1)
  refine tri_seq ?_
  refine tri_sr ?_
  refine m1 ?_
  refine m1 ?_
  refine s_len (m := x1.length) rfl sl24 rfl rfl rfl rfl ?_
  refine s_of (st_lss rfl rfl rfl) rfl rfl rfl rfl ?_
  refine rt_nil ?_
  refine tri_cond rfl (fun c3 => ?_) (fun c3 => ?_)
  ·refine drop_elim hd0 c3 fun e0 rs0 he hx0 hn0 => ?_
   subst he
   rw [s_l10Uniq_l0] at h
   refine tri_skip ?_
   refine tri_seq ?_
   refine tri_block ?_
   refine tri_sr ?_
   refine m1 ?_
   refine m1 ?_
   refine s_index0 (i := v0_1) rfl rfl rfl rfl sl24 rfl (get_lt hx0) rfl rfl rfl ?_
   refine s_loadR rfl rfl rfl (rowG hx0) ty39 rfl rfl rfl ?_
   refine s_alloc rfl rfl rfl zc39 rfl rfl rfl rfl rfl ?_
   refine s_storeB rfl rfl rfl ty39 rfl rfl rfl rfl rfl ?_
   refine rt_nil ?_
   refine tri_sr ?_
   refine m1 ?_
   refine s_len (m := v0_0.length) rfl sl24 rfl rfl rfl rfl ?_
   refine m2 ?_
   refine rt_nil ?_
   refine tri_cutI (ι := { p : Int // s_l10Uniq_j1 v0_0 v0_1 e0 (s_l10Uniq_l0 rs0) p = some r0 }) (fun p => inv_s_l10Uniq_1 x1 v0_0 v0_1 e0 p.1) ?_ ?_
   ·skip
    refine tri_cutI (ι := { p : Bool // s_l10Uniq_j2 v0_0 v0_1 e0 (s_l10Uniq_l0 rs0) p = some r0 }) (fun p => inv_s_l10Uniq_2 x1 v0_0 v0_1 e0 p.1) ?_ ?_
    ·skip
     refine tri_draw mixed ?_
     refine m1 ?_
     refine s_of (st_gtr rfl rfl rfl) rfl rfl rfl rfl ?_
     refine m1 ?_
     refine s_split (t := 25) rfl (fun b4 => ?_) (fun b4 => ?_)
     ·replace h := cond_t h b4
      refine m1 ?_
      refine m1 ?_
      refine grd_elim h fun g5 h => ?_
      refine s_subI rfl rfl rfl rfl g5 rfl rfl rfl ?_
      refine bnd1_elim h fun x6 q7 h => ?_
      have q7a := (idx_some q7).1; have q7b := (idx_some q7).2
      refine s_indexZ rfl rfl rfl rfl sl24 rfl q7a (get_lt q7b) rfl rfl rfl ?_
      refine s_fieldAddr rfl rfl fd39_0 rfl rfl rfl rfl ?_
      refine s_load rfl rfl rfl (rowG q7b) ty9 rfl (.inr rfl) (by conv => lhs; whnf) rfl rfl rfl ?_
      refine s_fieldAddr rfl rfl fd39_0 rfl rfl rfl rfl ?_
      refine s_load rfl rfl rfl rfl ty9 rfl (.inr rfl) (by conv => lhs; whnf) rfl rfl rfl ?_
      refine s_of (st_eqS rfl rfl rfl) rfl rfl rfl rfl ?_
      refine s_pickT rfl rfl (by conv => lhs; whnf) rfl rfl rfl ?_
      refine m1 ?_
      refine s_split (t := 36) rfl (fun b8 => ?_) (fun b8 => ?_)
      ·replace h := cond_t h b8
       refine m1 ?_
       refine m1 ?_
       refine grd_elim h fun g9 h => ?_
       refine s_subI rfl rfl rfl rfl g9 rfl rfl rfl ?_
       refine s_indexZ rfl rfl rfl rfl sl24 rfl q7a (get_lt q7b) rfl rfl rfl ?_
       refine s_fieldAddr rfl rfl fd39_1 rfl rfl rfl rfl ?_
       refine s_load rfl rfl rfl (rowG q7b) ty3 rfl (.inr rfl) (by conv => lhs; whnf) rfl rfl rfl ?_
       refine s_fieldAddr rfl rfl fd39_1 rfl rfl rfl rfl ?_
       refine s_load rfl rfl rfl rfl ty3 rfl (.inr rfl) (by conv => lhs; whnf) rfl rfl rfl ?_
       refine s_of (st_eqI rfl rfl rfl) rfl rfl rfl rfl ?_
       refine s_pickT rfl rfl (by conv => lhs; whnf) rfl rfl rfl ?_
       refine rt_nil ⟨by kernel_rfl, ?_⟩
       refine Exists.intro ⟨decide (x6.ty = e0.ty), h⟩ ?_
       refine entX [((9, 0), ⟨39, 6, List.map recV x1, false, true⟩, some (9, 0)), ((2004, 0), ⟨39, 6, List.map recV v0_0, false, true⟩, some (2004, 0)), ((6, 0), ⟨39, 6, [[.sc (.string e0.name), .sc (.int .i64 e0.ty), .sc (.int .i64 e0.ttl), .sc (.int .i64 e0.n), .sc (.string e0.host), .sc (.string e0.text)]], false, true⟩, some (6, 0))] [] ⟨⟨rfl, _, rfl, rfl, rfl, rfl, id, rowsCv_eq rfl (allFree_map recV_free), rowsZ_map recV_len⟩, ⟨rfl, _, rfl, rfl, rfl, rfl, id, rowsCv_eq rfl (allFree_map recV_free), rowsZ_map recV_len⟩, ⟨rfl, _, rfl, rfl, rfl, rfl, id, rowsCv_one (.cons (.free rfl) (.cons (.free rfl) (.cons (.free rfl) (.cons (.free rfl) (.cons (.free rfl) (.cons (.free rfl) .nil)))))), rowsZ_one rfl⟩, trivial⟩ trivial rfl rfl ?_
       exact ⟨(.ref rfl), (.ref rfl), (.free rfl), (.ptr rfl), (.free rfl), (.free rfl), trivial⟩
      ·replace h := cond_f h b8
       refine s_skip rfl rfl rfl ?_
       refine s_skip rfl rfl rfl ?_
       refine s_skip rfl rfl rfl ?_
       refine s_skip rfl rfl rfl ?_
       refine s_skip rfl rfl rfl ?_
       refine s_skip rfl rfl rfl ?_
       refine s_skip rfl rfl rfl ?_
       refine s_skip rfl rfl rfl ?_
       refine s_skip rfl rfl rfl ?_
       refine s_pickF rfl rfl (v := .sc (.bool false)) rfl rfl rfl rfl ?_
       refine rt_nil ⟨by kernel_rfl, ?_⟩
       refine Exists.intro ⟨false, h⟩ ?_
       refine entX [((9, 0), ⟨39, 6, List.map recV x1, false, true⟩, some (9, 0)), ((2004, 0), ⟨39, 6, List.map recV v0_0, false, true⟩, some (2004, 0)), ((6, 0), ⟨39, 6, [[.sc (.string e0.name), .sc (.int .i64 e0.ty), .sc (.int .i64 e0.ttl), .sc (.int .i64 e0.n), .sc (.string e0.host), .sc (.string e0.text)]], false, true⟩, some (6, 0))] [] ⟨⟨rfl, _, rfl, rfl, rfl, rfl, id, rowsCv_eq rfl (allFree_map recV_free), rowsZ_map recV_len⟩, ⟨rfl, _, rfl, rfl, rfl, rfl, id, rowsCv_eq rfl (allFree_map recV_free), rowsZ_map recV_len⟩, ⟨rfl, _, rfl, rfl, rfl, rfl, id, rowsCv_one (.cons (.free rfl) (.cons (.free rfl) (.cons (.free rfl) (.cons (.free rfl) (.cons (.free rfl) (.cons (.free rfl) .nil)))))), rowsZ_one rfl⟩, trivial⟩ trivial rfl rfl ?_
       exact ⟨(.ref rfl), (.ref rfl), (.free rfl), (.ptr rfl), (.free rfl), (.free rfl), trivial⟩
     ·replace h := cond_f h b4
      refine s_skip rfl rfl rfl ?_
      refine s_skip rfl rfl rfl ?_
      refine s_skip rfl rfl rfl ?_
      refine s_skip rfl rfl rfl ?_
      refine s_skip rfl rfl rfl ?_
      refine s_skip rfl rfl rfl ?_
      refine s_skip rfl rfl rfl ?_
      refine s_skip rfl rfl rfl ?_
      refine s_skip rfl rfl rfl ?_
      refine s_pickF rfl rfl (v := .sc (.bool false)) rfl rfl rfl rfl ?_
      refine m1 ?_
      refine s_skip rfl rfl rfl ?_
      refine s_skip rfl rfl rfl ?_
      refine s_skip rfl rfl rfl ?_
      refine s_skip rfl rfl rfl ?_
      refine s_skip rfl rfl rfl ?_
      refine s_skip rfl rfl rfl ?_
      refine s_skip rfl rfl rfl ?_
      refine s_skip rfl rfl rfl ?_
      refine s_skip rfl rfl rfl ?_
      refine s_pickF rfl rfl (v := .sc (.bool false)) rfl rfl rfl rfl ?_
      refine rt_nil ⟨by kernel_rfl, ?_⟩
      refine Exists.intro ⟨false, h⟩ ?_
      refine entX [((9, 0), ⟨39, 6, List.map recV x1, false, true⟩, some (9, 0)), ((2004, 0), ⟨39, 6, List.map recV v0_0, false, true⟩, some (2004, 0)), ((6, 0), ⟨39, 6, [[.sc (.string e0.name), .sc (.int .i64 e0.ty), .sc (.int .i64 e0.ttl), .sc (.int .i64 e0.n), .sc (.string e0.host), .sc (.string e0.text)]], false, true⟩, some (6, 0))] [] ⟨⟨rfl, _, rfl, rfl, rfl, rfl, id, rowsCv_eq rfl (allFree_map recV_free), rowsZ_map recV_len⟩, ⟨rfl, _, rfl, rfl, rfl, rfl, id, rowsCv_eq rfl (allFree_map recV_free), rowsZ_map recV_len⟩, ⟨rfl, _, rfl, rfl, rfl, rfl, id, rowsCv_one (.cons (.free rfl) (.cons (.free rfl) (.cons (.free rfl) (.cons (.free rfl) (.cons (.free rfl) (.cons (.free rfl) .nil)))))), rowsZ_one rfl⟩, trivial⟩ trivial rfl rfl ?_
      exact ⟨(.ref rfl), (.ref rfl), (.free rfl), (.ptr rfl), (.free rfl), (.free rfl), trivial⟩
    ·rintro ⟨j2_0, h⟩
     replace h : s_l10Uniq_j2 v0_0 v0_1 e0 (s_l10Uniq_l0 rs0) j2_0 = some r0 := h
     unfold s_l10Uniq_j2 at h
     show Tri _ _ _ (inv_s_l10Uniq_2 x1 v0_0 v0_1 e0 j2_0)
     refine tri_cond rfl (fun c4 => ?_) (fun c4 => ?_)
     ·replace h := cond_t h c4
      refine tri_sr ?_
      refine m1 ?_
      refine m1 ?_
      refine grd_elim h fun g5 h => ?_
      refine s_subI rfl rfl rfl rfl g5 rfl rfl rfl ?_
      refine bnd1_elim h fun x6 q7 h => ?_
      have q7a := (idx_some q7).1; have q7b := (idx_some q7).2
      refine s_indexZ rfl rfl rfl rfl sl24 rfl q7a (get_lt q7b) rfl rfl rfl ?_
      refine s_fieldAddr rfl rfl fd39_2 rfl rfl rfl rfl ?_
      refine s_load rfl rfl rfl (rowG q7b) ty3 rfl (.inr rfl) (by conv => lhs; whnf) rfl rfl rfl ?_
      refine s_fieldAddr rfl rfl fd39_2 rfl rfl rfl rfl ?_
      refine s_store (rows' := [[.sc (.string e0.name), .sc (.int .i64 e0.ty), .sc (.int .i64 x6.ttl), .sc (.int .i64 e0.n), .sc (.string e0.host), .sc (.string e0.text)]]) rfl rfl rfl rfl ty3 rfl rfl rfl rfl rfl rfl ?_
      refine rt_nil ?_
      refine tri_seq ?_
      refine tri_draw mixed ?_
      refine m1 ?_
      refine m1 ?_
      refine grd_elim h fun g8 h => ?_
      refine s_subI rfl rfl rfl rfl g8 rfl rfl rfl ?_
      refine s_indexZ rfl rfl rfl rfl sl24 rfl q7a (get_lt q7b) rfl rfl rfl ?_
      refine s_loadR rfl rfl rfl (rowG q7b) ty39 rfl rfl rfl ?_
      refine s_loadR rfl rfl rfl rfl ty39 rfl rfl rfl ?_
      refine s_eqStruct (r' := (decide (x6.name = e0.name) && (decide (x6.ty = e0.ty) && (decide (x6.ttl = x6.ttl) && (decide (x6.n = e0.n) && (decide (x6.host = e0.host) && (decide (x6.text = e0.text) && true))))))) rfl rfl rfl fk39 rfl rfl rfl rfl rfl ?_
      refine rt_nil ⟨by kernel_rfl, ?_⟩
      refine tri_cond rfl (fun c9 => ?_) (fun c9 => ?_)
      ·replace h := cond_t h c9
       refine tri_exit ?_
       refine tri_region ?_
       refine m1 ?_
       refine s_inc (a := v0_1) (b := 1) rfl rfl rfl rfl (by have := get_lt hx0; have := hl0; omega) rfl rfl rfl ?_
       refine m2 ?_
       refine rt_nil ?_
       refine Exists.intro ⟨(rs0, v0_0, (v0_1 + 1)), hn0, h⟩ (And.intro (Nat.lt_succ_self _) ?_)
       refine entX [((9, 0), ⟨39, 6, List.map recV x1, false, true⟩, some (9, 0)), ((2004, 0), ⟨39, 6, List.map recV v0_0, false, true⟩, some (2004, 0))] [] ⟨⟨rfl, _, rfl, rfl, rfl, rfl, id, rowsCv_eq rfl (allFree_map recV_free), rowsZ_map recV_len⟩, ⟨rfl, _, rfl, rfl, rfl, rfl, id, rowsCv_eq rfl (allFree_map recV_free), rowsZ_map recV_len⟩, trivial⟩ trivial rfl rfl ?_
       exact ⟨(.ref rfl), (.ref rfl), (.free rfl), trivial⟩
      ·replace h := cond_f h c9
       refine tri_skip ?_
       refine Exists.intro ⟨x6.ttl, h⟩ ?_
       refine entX [((9, 0), ⟨39, 6, List.map recV x1, false, true⟩, some (9, 0)), ((2004, 0), ⟨39, 6, List.map recV v0_0, false, true⟩, some (2004, 0)), ((6, 0), ⟨39, 6, [[.sc (.string e0.name), .sc (.int .i64 e0.ty), .sc (.int .i64 x6.ttl), .sc (.int .i64 e0.n), .sc (.string e0.host), .sc (.string e0.text)]], false, true⟩, some (6, 0))] [] ⟨⟨rfl, _, rfl, rfl, rfl, rfl, id, rowsCv_eq rfl (allFree_map recV_free), rowsZ_map recV_len⟩, ⟨rfl, _, rfl, rfl, rfl, rfl, id, rowsCv_eq rfl (allFree_map recV_free), rowsZ_map recV_len⟩, ⟨rfl, _, rfl, rfl, rfl, rfl, id, rowsCv_one (.cons (.free rfl) (.cons (.free rfl) (.cons (.free rfl) (.cons (.free rfl) (.cons (.free rfl) (.cons (.free rfl) .nil)))))), rowsZ_one rfl⟩, trivial⟩ trivial rfl rfl ?_
       exact ⟨(.ref rfl), (.ref rfl), (.free rfl), (.ptr rfl), trivial⟩
     ·replace h := cond_f h c4
      refine tri_skip ?_
      refine Exists.intro ⟨e0.ttl, h⟩ ?_
      refine entX [((9, 0), ⟨39, 6, List.map recV x1, false, true⟩, some (9, 0)), ((2004, 0), ⟨39, 6, List.map recV v0_0, false, true⟩, some (2004, 0)), ((6, 0), ⟨39, 6, [[.sc (.string e0.name), .sc (.int .i64 e0.ty), .sc (.int .i64 e0.ttl), .sc (.int .i64 e0.n), .sc (.string e0.host), .sc (.string e0.text)]], false, true⟩, some (6, 0))] [] ⟨⟨rfl, _, rfl, rfl, rfl, rfl, id, rowsCv_eq rfl (allFree_map recV_free), rowsZ_map recV_len⟩, ⟨rfl, _, rfl, rfl, rfl, rfl, id, rowsCv_eq rfl (allFree_map recV_free), rowsZ_map recV_len⟩, ⟨rfl, _, rfl, rfl, rfl, rfl, id, rowsCv_one (.cons (.free rfl) (.cons (.free rfl) (.cons (.free rfl) (.cons (.free rfl) (.cons (.free rfl) (.cons (.free rfl) .nil)))))), rowsZ_one rfl⟩, trivial⟩ trivial rfl rfl ?_
      exact ⟨(.ref rfl), (.ref rfl), (.free rfl), (.ptr rfl), trivial⟩
   ·rintro ⟨j1_0, h⟩
    replace h : s_l10Uniq_j1 v0_0 v0_1 e0 (s_l10Uniq_l0 rs0) j1_0 = some r0 := h
    unfold s_l10Uniq_j1 at h
    show Tri _ _ _ (inv_s_l10Uniq_1 x1 v0_0 v0_1 e0 j1_0)
    refine tri_region ?_
    refine m1 ?_
    refine s_loadR rfl rfl rfl rfl ty39 rfl rfl rfl ?_
    refine s_buildSlice (rows' := List.map recV [Rec.mk e0.name e0.ty j1_0 e0.n e0.host e0.text]) rfl rfl rfl sl24 zc39 rfl rfl rfl rfl rfl rfl rfl rfl rfl ?_
    refine grd_elim h fun g4 h => ?_
    refine s_appL rfl rfl rfl sl24 zc39 rfl rfl rfl rfl rfl rfl (src_refL rfl rfl) g4 rfl rfl ?_
    refine m2 ?_
    refine rt_nil ?_
    refine tri_region ?_
    refine m1 ?_
    refine s_inc (a := v0_1) (b := 1) rfl rfl rfl rfl (by have := get_lt hx0; have := hl0; omega) rfl rfl rfl ?_
    refine m2 ?_
    refine rt_nil ?_
    refine Exists.intro ⟨(rs0, v0_0 ++ [Rec.mk e0.name e0.ty j1_0 e0.n e0.host e0.text], (v0_1 + 1)), hn0, h⟩ (And.intro (Nat.lt_succ_self _) ?_)
    refine entX [((9, 0), ⟨39, 6, List.map recV x1, false, true⟩, some (9, 0)), ((2004, 0), ⟨39, 6, List.map recV (v0_0 ++ [Rec.mk e0.name e0.ty j1_0 e0.n e0.host e0.text]), false, true⟩, some (64, 0))] [] ⟨⟨rfl, _, rfl, rfl, rfl, rfl, id, rowsCv_eq rfl (allFree_map recV_free), rowsZ_map recV_len⟩, ⟨rfl, _, rfl, rfl, rfl, rfl, id, rowsCv_eq rfl (allFree_map recV_free), rowsZ_map recV_len⟩, trivial⟩ trivial rfl rfl ?_
    exact ⟨(.ref rfl), (.ref rfl), (.free rfl), trivial⟩
  ·have he := drop_f hd0 c3; subst he
   rw [s_l10Uniq_l0] at h
   refine tri_exit ?_
   refine tri_sr ?_
   refine m1 ?_
   refine m2 ?_
   refine rt_nil ?_
   refine tri_ret ?_
   have e0 := (some1 h); subst e0
   exact endY (v' := .ref (2000, 0) 0 v0_0.length) [((2000, 0), ⟨39, 6, List.map recV v0_0, false, true⟩, some (2004, 0))] [] (rvC (resTmp rfl) rvN) ⟨⟨rfl, _, rfl, rfl, rfl, rfl, id, rowsCv_eq rfl (allFree_map recV_free), rowsZ_map recV_len⟩, trivial⟩ trivial rfl rfl (by kernel_rfl) (by simp only [V.mat, V.mat1, V.mat0, matL, matT, List.length_map] <;> rfl) (.ref rfl)

/- spec.l12Draw -/
def inv_s_l12Draw_4 (x1 : Int) (j2_3 : List Rec) (j3_0 : List Int) (j3_1 : Int) (j3_2 : Int) (j3_3 : List Rec) (j3_4 : List Rec) (x24 : Rec) (x26 : Rec) (x29 : Rec) (x32 : Rec) (x34 : Rec) (x36 : Rec) (x38 : Rec) (x40 : Rec) (x42 : Rec) (x44 : Rec) (j4_0 : List MPost) : St := mkT 164 [(2, .ptr (2, 0) 0 0), (4, .ref (110, 0) 0 ((j3_3 ++ [x29]).length)), (5, .ref (128, 0) 0 ((j2_3 ++ [x42, x44]).length)), (6, .ptr (6, 0) 0 0), (8, .ref (104, 0) 0 ((j3_4 ++ ([x24, x26, Rec.mk (⟨#[97, 108, 46, 111, 114, 103]⟩ : ByteArray) 5 x1 0 (⟨#[119, 119, 119, 46, 101, 120, 46, 99, 111, 109]⟩ : ByteArray) (⟨#[]⟩ : ByteArray), Rec.mk (⟨#[108, 111, 46, 111, 114, 103]⟩ : ByteArray) 5 x1 0 (⟨#[108, 111, 46, 99, 111, 109]⟩ : ByteArray) (⟨#[]⟩ : ByteArray)])).length)), (10, .ref (121, 0) 0 ([x32, x34, x36, x38, x40].length))] [((1000, 0), some ⟨136, 3, [[.lst 1 (List.map byteV j3_0), .sc (.int .i64 j3_1), .sc (.int .i64 j3_2)]], false, false⟩), ((2, 0), some ⟨45, 2, [[.nils, .nils]], false, true⟩), ((110, 0), some ⟨39, 6, List.map recV (j3_3 ++ [x29]), false, true⟩), ((128, 0), some ⟨39, 6, List.map recV (j2_3 ++ [x42, x44]), false, true⟩), ((6, 0), some ⟨45, 2, [[.nils, .ref (2006, 2) 0 j4_0.length]], false, true⟩), ((2006, 2), some ⟨146, 2, List.map mPostV j4_0, false, true⟩), ((104, 0), some ⟨39, 6, List.map recV (j3_4 ++ ([x24, x26, Rec.mk (⟨#[97, 108, 46, 111, 114, 103]⟩ : ByteArray) 5 x1 0 (⟨#[119, 119, 119, 46, 101, 120, 46, 99, 111, 109]⟩ : ByteArray) (⟨#[]⟩ : ByteArray), Rec.mk (⟨#[108, 111, 46, 111, 114, 103]⟩ : ByteArray) 5 x1 0 (⟨#[108, 111, 46, 99, 111, 109]⟩ : ByteArray) (⟨#[]⟩ : ByteArray)])), false, true⟩), ((121, 0), some ⟨39, 6, List.map recV [x32, x34, x36, x38, x40], false, true⟩)]
def inv_s_l12Draw_3 (x1 : Int) (j0_5 : List MPost) (j2_3 : List Rec) (j3_0 : List Int) (j3_1 : Int) (j3_2 : Int) (j3_3 : List Rec) (j3_4 : List Rec) (j3_5 : ByteArray) : St := mkT 164 [(2, .ptr (2, 0) 0 0), (3, .sc (.int .i64 x1)), (4, .ref (2004, 0) 0 j3_3.length), (5, .ref (2005, 0) 0 j2_3.length), (6, .ptr (6, 0) 0 0), (8, .ref (2008, 0) 0 j3_4.length), (9, .sc (.string j3_5))] [((1000, 0), some ⟨136, 3, [[.lst 1 (List.map byteV j3_0), .sc (.int .i64 j3_1), .sc (.int .i64 j3_2)]], false, false⟩), ((2, 0), some ⟨45, 2, [[.nils, .nils]], false, true⟩), ((2004, 0), some ⟨39, 6, List.map recV j3_3, false, true⟩), ((2005, 0), some ⟨39, 6, List.map recV j2_3, false, true⟩), ((6, 0), some ⟨45, 2, [[.nils, .ref (2006, 2) 0 j0_5.length]], false, true⟩), ((2006, 2), some ⟨146, 2, List.map mPostV j0_5, false, true⟩), ((2008, 0), some ⟨39, 6, List.map recV j3_4, false, true⟩)]
def inv_s_l12Draw_2 (x1 : Int) (j0_3 : List Rec) (j0_5 : List MPost) (j2_0 : List Int) (j2_1 : Int) (j2_2 : Int) (j2_3 : List Rec) : St := mkT 164 [(0, .ptr (1000, 0) 0 0), (2, .ptr (2, 0) 0 0), (3, .sc (.int .i64 x1)), (4, .ref (2004, 0) 0 j0_3.length), (5, .ref (2005, 0) 0 j2_3.length), (6, .ptr (6, 0) 0 0)] [((1000, 0), some ⟨136, 3, [[.lst 1 (List.map byteV j2_0), .sc (.int .i64 j2_1), .sc (.int .i64 j2_2)]], false, false⟩), ((2, 0), some ⟨45, 2, [[.nils, .nils]], false, true⟩), ((2004, 0), some ⟨39, 6, List.map recV j0_3, false, true⟩), ((2005, 0), some ⟨39, 6, List.map recV j2_3, false, true⟩), ((6, 0), some ⟨45, 2, [[.nils, .ref (2006, 2) 0 j0_5.length]], false, true⟩), ((2006, 2), some ⟨146, 2, List.map mPostV j0_5, false, true⟩)]
def inv_s_l12Draw_1 (x1 : Int) (j0_3 : List Rec) (j0_5 : List MPost) (j1_0 : List Int) (j1_1 : Int) (j1_2 : Int) (j1_3 : List Rec) : St := mkT 164 [(0, .ptr (1000, 0) 0 0), (2, .ptr (2, 0) 0 0), (3, .sc (.int .i64 x1)), (4, .ref (2004, 0) 0 j0_3.length), (5, .ref (2005, 0) 0 j1_3.length), (6, .ptr (6, 0) 0 0)] [((1000, 0), some ⟨136, 3, [[.lst 1 (List.map byteV j1_0), .sc (.int .i64 j1_1), .sc (.int .i64 j1_2)]], false, false⟩), ((2, 0), some ⟨45, 2, [[.nils, .nils]], false, true⟩), ((2004, 0), some ⟨39, 6, List.map recV j0_3, false, true⟩), ((2005, 0), some ⟨39, 6, List.map recV j1_3, false, true⟩), ((6, 0), some ⟨45, 2, [[.nils, .ref (2006, 2) 0 j0_5.length]], false, true⟩), ((2006, 2), some ⟨146, 2, List.map mPostV j0_5, false, true⟩)]
def inv_s_l12Draw_0 (x1 : Int) (j0_0 : List Int) (j0_1 : Int) (j0_2 : Int) (j0_3 : List Rec) (j0_4 : List Rec) (j0_5 : List MPost) : St := mkT 164 [(0, .ptr (1000, 0) 0 0), (2, .ptr (2, 0) 0 0), (3, .sc (.int .i64 x1)), (4, .ref (2004, 0) 0 j0_3.length), (5, .ref (2005, 0) 0 j0_4.length), (6, .ptr (6, 0) 0 0)] [((1000, 0), some ⟨136, 3, [[.lst 1 (List.map byteV j0_0), .sc (.int .i64 j0_1), .sc (.int .i64 j0_2)]], false, false⟩), ((2, 0), some ⟨45, 2, [[.nils, .nils]], false, true⟩), ((2004, 0), some ⟨39, 6, List.map recV j0_3, false, true⟩), ((2005, 0), some ⟨39, 6, List.map recV j0_4, false, true⟩), ((6, 0), some ⟨45, 2, [[.nils, .ref (2006, 2) 0 j0_5.length]], false, true⟩), ((2006, 2), some ⟨146, 2, List.map mPostV j0_5, false, true⟩)]
set_option maxRecDepth 4000 in
set_option maxHeartbeats 800000 in
theorem ws_l12Draw (p0 : Cur) (r0 : MForest) (r1 : Cur) (h : s_l12Draw p0 = some (r0, r1)) : Runs Tryd.prog 101 [.ptr (1000, 0) 0 0] [⟨136, 3, [[.lst 1 (List.map byteV p0.b), .sc (.int .i64 p0.i), .sc (.int .i64 p0.h)]], false, false⟩] (.agg [.own 26 2 (List.map mZoneV r0.zones), .own 146 2 (List.map mPostV r0.posts)]) [⟨136, 3, [[.lst 1 (List.map byteV r1.b), .sc (.int .i64 r1.i), .sc (.int .i64 r1.h)]], false, false⟩] := by
 unfold s_l12Draw at h
 refine runsR [.cell 2 45] Tryd.func101 rfl rfl rfl rfl ?_
 rw [Tryd.ntmps101]
 refine tri_sr ?_
 refine s_alloc rfl rfl rfl zc45 rfl rfl rfl rfl rfl ?_
 refine rt_nil ?_
 refine tri_sr ?_
 refine m1 ?_
 refine s_buildSlice (rows' := List.map intV [3, 20, 300]) rfl rfl rfl sl76 zc3 rfl rfl rfl rfl rfl rfl rfl rfl rfl ?_
 refine bnd2_elim h fun x1 x2 q3 h => ?_
 refine s_callZ (kb := [(12, 0)]) (ns := [(1000, 0)]) (v := .sc (.int .i64 x1)) rfl rfl cl140 (ws_l1Int p0 [3, 20, 300] x1 x2 q3) rfl (.cons (.ptrOwn rfl) (.cons (lendL rfl (.head _) rfl intV_free intV_len) .nil)) ⟨⟨_, rfl, rfl⟩, trivial⟩ (memCons (allFree_one rfl) memNil) (List.nodup_cons.2 ⟨List.not_mem_nil, .nil⟩) (by decide) ⟨⟨_, rfl, rfl⟩, trivial⟩ rfl trivial (memCons (allFree_one rfl) memNil) rfl rfl rfl rfl rfl rfl ?_
 refine m2 ?_
 refine rt_nil ?_
 refine tri_sr ?_
 refine m1 ?_
 refine bnd1_elim h fun x4 q5 h => ?_
 refine s_callN (kb := []) (ns := []) (v := .agg (recV x4)) rfl rfl cl141 (ws_l10Start (⟨#[]⟩ : ByteArray) x1 x4 q5) rfl (.cons (.free rfl) (.cons (.free rfl) .nil)) trivial memNil .nil memNil rfl trivial memNil rfl rfl rfl rfl rfl rfl ?_
 refine m1 ?_
 refine bnd1_elim h fun x6 q7 h => ?_
 refine s_callN (kb := []) (ns := []) (v := .agg (recV x6)) rfl rfl cl142 (ws_l10Server (⟨#[]⟩ : ByteArray) (⟨#[110, 115, 46, 99, 111, 109]⟩ : ByteArray) x1 x6 q7) rfl (.cons (.free rfl) (.cons (.free rfl) (.cons (.free rfl) .nil))) trivial memNil .nil memNil rfl trivial memNil rfl rfl rfl rfl rfl rfl ?_
 refine m1 ?_
 refine bnd1_elim h fun x8 q9 h => ?_
 refine s_callN (kb := []) (ns := []) (v := .agg (recV x8)) rfl rfl cl142 (ws_l10Server (⟨#[99, 111, 109]⟩ : ByteArray) (⟨#[110, 115, 46, 99, 111, 109]⟩ : ByteArray) x1 x8 q9) rfl (.cons (.free rfl) (.cons (.free rfl) (.cons (.free rfl) .nil))) trivial memNil .nil memNil rfl trivial memNil rfl rfl rfl rfl rfl rfl ?_
 refine m1 ?_
 refine bnd1_elim h fun x10 q11 h => ?_
 refine s_callN (kb := []) (ns := []) (v := .agg (recV x10)) rfl rfl cl143 (ws_l10Addr (⟨#[110, 115, 46, 99, 111, 109]⟩ : ByteArray) 2 x1 x10 q11) rfl (.cons (.free rfl) (.cons (.free rfl) (.cons (.free rfl) .nil))) trivial memNil .nil memNil rfl trivial memNil rfl rfl rfl rfl rfl rfl ?_
 refine s_buildSlice (rows' := List.map recV [x4, x6, x8, x10]) rfl rfl rfl sl24 zc39 rfl rfl rfl rfl rfl rfl rfl rfl rfl ?_
 refine m2 ?_
 refine rt_nil ?_
 refine tri_sr ?_
 refine m1 ?_
 refine bnd1_elim h fun x12 q13 h => ?_
 refine s_callN (kb := []) (ns := []) (v := .agg (recV x12)) rfl rfl cl141 (ws_l10Start (⟨#[99, 111, 109]⟩ : ByteArray) x1 x12 q13) rfl (.cons (.free rfl) (.cons (.free rfl) .nil)) trivial memNil .nil memNil rfl trivial memNil rfl rfl rfl rfl rfl rfl ?_
 refine m1 ?_
 refine bnd1_elim h fun x14 q15 h => ?_
 refine s_callN (kb := []) (ns := []) (v := .agg (recV x14)) rfl rfl cl142 (ws_l10Server (⟨#[99, 111, 109]⟩ : ByteArray) (⟨#[110, 115, 46, 99, 111, 109]⟩ : ByteArray) x1 x14 q15) rfl (.cons (.free rfl) (.cons (.free rfl) (.cons (.free rfl) .nil))) trivial memNil .nil memNil rfl trivial memNil rfl rfl rfl rfl rfl rfl ?_
 refine m1 ?_
 refine bnd1_elim h fun x16 q17 h => ?_
 refine s_callN (kb := []) (ns := []) (v := .agg (recV x16)) rfl rfl cl143 (ws_l10Addr (⟨#[110, 115, 46, 99, 111, 109]⟩ : ByteArray) 2 x1 x16 q17) rfl (.cons (.free rfl) (.cons (.free rfl) (.cons (.free rfl) .nil))) trivial memNil .nil memNil rfl trivial memNil rfl rfl rfl rfl rfl rfl ?_
 refine s_buildSlice (rows' := List.map recV [x12, x14, x16]) rfl rfl rfl sl24 zc39 rfl rfl rfl rfl rfl rfl rfl rfl rfl ?_
 refine m2 ?_
 refine rt_nil ?_
 refine tri_sr ?_
 refine s_build (cells' := [.sc (.int .i64 2), .sc (.string (⟨#[]⟩ : ByteArray))]) rfl stc146 rfl rfl rfl rfl rfl rfl rfl ?_
 refine s_build (cells' := [.sc (.int .i64 2), .sc (.string (⟨#[99, 111, 109]⟩ : ByteArray))]) rfl stc146 rfl rfl rfl rfl rfl rfl rfl ?_
 refine s_buildSlice (rows' := List.map mPostV [MPost.mk 2 (⟨#[]⟩ : ByteArray), MPost.mk 2 (⟨#[99, 111, 109]⟩ : ByteArray)]) rfl rfl rfl sl43 zc146 rfl rfl rfl rfl rfl rfl rfl rfl rfl ?_
 refine s_build (cells' := [.nils, .ref (32, 0) 0 2]) rfl stc45 rfl rfl rfl rfl rfl rfl rfl ?_
 refine s_alloc rfl rfl rfl zc45 rfl rfl rfl rfl rfl ?_
 refine s_storeB rfl rfl rfl ty45 rfl rfl rfl rfl rfl ?_
 refine rt_nil ?_
 refine tri_cutI (ι := { p : (List Int) × Int × Int × (List Rec) × (List Rec) × (List MPost) // s_l12Draw_j0 x1 p.1 p.2.1 p.2.2.1 p.2.2.2.1 p.2.2.2.2.1 p.2.2.2.2.2 = some (r0, r1) }) (fun p => inv_s_l12Draw_0 x1 p.1.1 p.1.2.1 p.1.2.2.1 p.1.2.2.2.1 p.1.2.2.2.2.1 p.1.2.2.2.2.2) ?_ ?_
 ·skip
  refine tri_sr ?_
  refine m1 ?_
  refine bnd2_elim h fun x18 x19 q20 h => ?_
  refine s_callZ (kb := []) (ns := [(1000, 0)]) (v := .sc (.bool x18)) rfl rfl cl113 (ws_l1Once x2 2 x18 x19 q20) rfl (.cons (.ptrOwn rfl) (.cons (.free rfl) .nil)) ⟨⟨_, rfl, rfl⟩, trivial⟩ (memCons (allFree_one rfl) memNil) (List.nodup_cons.2 ⟨List.not_mem_nil, .nil⟩) memNil trivial rfl trivial (memCons (allFree_one rfl) memNil) rfl rfl rfl rfl rfl rfl ?_
  refine rt_nil ?_
  refine tri_cond rfl (fun c21 => ?_) (fun c21 => ?_)
  ·replace h := cond_t h c21
   refine tri_sr ?_
   refine m1 ?_
   refine m1 ?_
   refine bnd1_elim h fun x22 q23 h => ?_
   refine s_callN (kb := []) (ns := []) (v := .agg (recV x22)) rfl rfl cl143 (ws_l10Addr (⟨#[110, 115, 46, 99, 111, 109]⟩ : ByteArray) 12 x1 x22 q23) rfl (.cons (.free rfl) (.cons (.free rfl) (.cons (.free rfl) .nil))) trivial memNil .nil memNil rfl trivial memNil rfl rfl rfl rfl rfl rfl ?_
   refine s_buildSlice (rows' := List.map recV [x22]) rfl rfl rfl sl24 zc39 rfl rfl rfl rfl rfl rfl rfl rfl rfl ?_
   refine grd_elim h fun g24 h => ?_
   refine s_appL rfl rfl rfl sl24 zc39 rfl rfl rfl rfl rfl rfl (src_refL rfl rfl) g24 rfl rfl ?_
   refine m2 ?_
   refine rt_nil ?_
   refine tri_sr ?_
   refine m1 ?_
   refine m1 ?_
   refine bnd1_elim h fun x25 q26 h => ?_
   refine s_callN (kb := []) (ns := []) (v := .agg (recV x25)) rfl rfl cl143 (ws_l10Addr (⟨#[110, 115, 46, 99, 111, 109]⟩ : ByteArray) 12 x1 x25 q26) rfl (.cons (.free rfl) (.cons (.free rfl) (.cons (.free rfl) .nil))) trivial memNil .nil memNil rfl trivial memNil rfl rfl rfl rfl rfl rfl ?_
   refine s_buildSlice (rows' := List.map recV [x25]) rfl rfl rfl sl24 zc39 rfl rfl rfl rfl rfl rfl rfl rfl rfl ?_
   refine grd_elim h fun g27 h => ?_
   refine s_appL rfl rfl rfl sl24 zc39 rfl rfl rfl rfl rfl rfl (src_refL rfl rfl) g27 rfl rfl ?_
   refine m2 ?_
   refine rt_nil ?_
   refine tri_region ?_
   refine s_fieldAddr rfl rfl fd45_1 rfl rfl rfl rfl ?_
   refine s_load rfl rfl rfl rfl ty43 rfl (.inr rfl) (by conv => lhs; whnf) rfl rfl rfl ?_
   refine s_build (cells' := [.sc (.int .i64 12), .sc (.string (⟨#[]⟩ : ByteArray))]) rfl stc146 rfl rfl rfl rfl rfl rfl rfl ?_
   refine s_build (cells' := [.sc (.int .i64 12), .sc (.string (⟨#[99, 111, 109]⟩ : ByteArray))]) rfl stc146 rfl rfl rfl rfl rfl rfl rfl ?_
   refine s_buildSlice (rows' := List.map mPostV [MPost.mk 12 (⟨#[]⟩ : ByteArray), MPost.mk 12 (⟨#[99, 111, 109]⟩ : ByteArray)]) rfl rfl rfl sl43 zc146 rfl rfl rfl rfl rfl rfl rfl rfl rfl ?_
   refine grd_elim h fun g28 h => ?_
   refine s_appL rfl rfl rfl sl43 zc146 rfl rfl rfl rfl rfl rfl (src_refL rfl rfl) g28 rfl rfl ?_
   refine s_fieldAddr rfl rfl fd45_1 rfl rfl rfl rfl ?_
   refine s_store (rows' := [[.nils, .ref (51, 0) 0 ((([MPost.mk 2 (⟨#[]⟩ : ByteArray), MPost.mk 2 (⟨#[99, 111, 109]⟩ : ByteArray)]) ++ ([MPost.mk 12 (⟨#[]⟩ : ByteArray), MPost.mk 12 (⟨#[99, 111, 109]⟩ : ByteArray)])).length)]]) rfl rfl rfl rfl ty43 rfl rfl rfl rfl rfl rfl ?_
   refine rt_nil ?_
   refine Exists.intro ⟨(x19.b, x19.i, x19.h, [x4, x6, x8, x10] ++ [x25], [x12, x14, x16] ++ [x22], ([MPost.mk 2 (⟨#[]⟩ : ByteArray), MPost.mk 2 (⟨#[99, 111, 109]⟩ : ByteArray)]) ++ ([MPost.mk 12 (⟨#[]⟩ : ByteArray), MPost.mk 12 (⟨#[99, 111, 109]⟩ : ByteArray)])), h⟩ ?_
   refine entX [((1000, 0), ⟨136, 3, [[.lst 1 (List.map byteV x19.b), .sc (.int .i64 x19.i), .sc (.int .i64 x19.h)]], false, false⟩, some (1000, 0)), ((2, 0), ⟨45, 2, [[.nils, .nils]], false, true⟩, some (2, 0)), ((2004, 0), ⟨39, 6, List.map recV ([x4, x6, x8, x10] ++ [x25]), false, true⟩, some (45, 0)), ((2005, 0), ⟨39, 6, List.map recV ([x12, x14, x16] ++ [x22]), false, true⟩, some (40, 0)), ((6, 0), ⟨45, 2, [[.nils, .ref (2006, 2) 0 (([MPost.mk 2 (⟨#[]⟩ : ByteArray), MPost.mk 2 (⟨#[99, 111, 109]⟩ : ByteArray)]) ++ ([MPost.mk 12 (⟨#[]⟩ : ByteArray), MPost.mk 12 (⟨#[99, 111, 109]⟩ : ByteArray)])).length]], false, true⟩, some (6, 0)), ((2006, 2), ⟨146, 2, List.map mPostV (([MPost.mk 2 (⟨#[]⟩ : ByteArray), MPost.mk 2 (⟨#[99, 111, 109]⟩ : ByteArray)]) ++ ([MPost.mk 12 (⟨#[]⟩ : ByteArray), MPost.mk 12 (⟨#[99, 111, 109]⟩ : ByteArray)])), false, true⟩, some (51, 0))] [] ⟨⟨rfl, _, rfl, rfl, rfl, rfl, id, rowsCv_one (.cons (.free rfl) (.cons (.free rfl) (.cons (.free rfl) .nil))), rowsZ_one rfl⟩, ⟨rfl, _, rfl, rfl, rfl, rfl, id, rowsCv_one (.cons (.free rfl) (.cons (.free rfl) .nil)), rowsZ_one rfl⟩, ⟨rfl, _, rfl, rfl, rfl, rfl, id, rowsCv_eq rfl (allFree_map recV_free), rowsZ_map recV_len⟩, ⟨rfl, _, rfl, rfl, rfl, rfl, id, rowsCv_eq rfl (allFree_map recV_free), rowsZ_map recV_len⟩, ⟨rfl, _, rfl, rfl, rfl, rfl, id, rowsCv_one (.cons (.free rfl) (.cons (.ref rfl) .nil)), rowsZ_one rfl⟩, ⟨rfl, _, rfl, rfl, rfl, rfl, id, rowsCv_eq rfl (allFree_map mPostV_free), rowsZ_map mPostV_len⟩, trivial⟩ trivial rfl rfl ?_
   exact ⟨(.ptr rfl), (.ptr rfl), (.free rfl), (.ref rfl), (.ref rfl), (.ptr rfl), trivial⟩
  ·replace h := cond_f h c21
   refine tri_skip ?_
   refine Exists.intro ⟨(x19.b, x19.i, x19.h, [x4, x6, x8, x10], [x12, x14, x16], [MPost.mk 2 (⟨#[]⟩ : ByteArray), MPost.mk 2 (⟨#[99, 111, 109]⟩ : ByteArray)]), h⟩ ?_
   refine entX [((1000, 0), ⟨136, 3, [[.lst 1 (List.map byteV x19.b), .sc (.int .i64 x19.i), .sc (.int .i64 x19.h)]], false, false⟩, some (1000, 0)), ((2, 0), ⟨45, 2, [[.nils, .nils]], false, true⟩, some (2, 0)), ((2004, 0), ⟨39, 6, List.map recV [x4, x6, x8, x10], false, true⟩, some (22, 0)), ((2005, 0), ⟨39, 6, List.map recV [x12, x14, x16], false, true⟩, some (29, 0)), ((6, 0), ⟨45, 2, [[.nils, .ref (2006, 2) 0 ([MPost.mk 2 (⟨#[]⟩ : ByteArray), MPost.mk 2 (⟨#[99, 111, 109]⟩ : ByteArray)]).length]], false, true⟩, some (6, 0)), ((2006, 2), ⟨146, 2, List.map mPostV ([MPost.mk 2 (⟨#[]⟩ : ByteArray), MPost.mk 2 (⟨#[99, 111, 109]⟩ : ByteArray)]), false, true⟩, some (32, 0))] [] ⟨⟨rfl, _, rfl, rfl, rfl, rfl, id, rowsCv_one (.cons (.free rfl) (.cons (.free rfl) (.cons (.free rfl) .nil))), rowsZ_one rfl⟩, ⟨rfl, _, rfl, rfl, rfl, rfl, id, rowsCv_one (.cons (.free rfl) (.cons (.free rfl) .nil)), rowsZ_one rfl⟩, ⟨rfl, _, rfl, rfl, rfl, rfl, id, rowsCv_eq rfl (allFree_map recV_free), rowsZ_map recV_len⟩, ⟨rfl, _, rfl, rfl, rfl, rfl, id, rowsCv_eq rfl (allFree_map recV_free), rowsZ_map recV_len⟩, ⟨rfl, _, rfl, rfl, rfl, rfl, id, rowsCv_one (.cons (.free rfl) (.cons (.ref rfl) .nil)), rowsZ_one rfl⟩, ⟨rfl, _, rfl, rfl, rfl, rfl, id, rowsCv_eq rfl (allFree_map mPostV_free), rowsZ_map mPostV_len⟩, trivial⟩ trivial rfl rfl ?_
   exact ⟨(.ptr rfl), (.ptr rfl), (.free rfl), (.ref rfl), (.ref rfl), (.ptr rfl), trivial⟩
 ·rintro ⟨⟨j0_0, j0_1, j0_2, j0_3, j0_4, j0_5⟩, h⟩
  replace h : s_l12Draw_j0 x1 j0_0 j0_1 j0_2 j0_3 j0_4 j0_5 = some (r0, r1) := h
  unfold s_l12Draw_j0 at h
  show Tri _ _ _ (inv_s_l12Draw_0 x1 j0_0 j0_1 j0_2 j0_3 j0_4 j0_5)
  refine tri_cutI (ι := { p : (List Int) × Int × Int × (List Rec) // s_l12Draw_j1 x1 j0_3 j0_5 p.1 p.2.1 p.2.2.1 p.2.2.2 = some (r0, r1) }) (fun p => inv_s_l12Draw_1 x1 j0_3 j0_5 p.1.1 p.1.2.1 p.1.2.2.1 p.1.2.2.2) ?_ ?_
  ·skip
   refine tri_sr ?_
   refine m1 ?_
   refine bnd2_elim h fun x18 x19 q20 h => ?_
   refine s_callZ (kb := []) (ns := [(1000, 0)]) (v := .sc (.bool x18)) rfl rfl cl113 (ws_l1Once (Cur.mk j0_0 j0_1 j0_2) 3 x18 x19 q20) rfl (.cons (.ptrOwn rfl) (.cons (.free rfl) .nil)) ⟨⟨_, rfl, rfl⟩, trivial⟩ (memCons (allFree_one rfl) memNil) (List.nodup_cons.2 ⟨List.not_mem_nil, .nil⟩) memNil trivial rfl trivial (memCons (allFree_one rfl) memNil) rfl rfl rfl rfl rfl rfl ?_
   refine rt_nil ?_
   refine tri_cond rfl (fun c21 => ?_) (fun c21 => ?_)
   ·replace h := cond_t h c21
    refine tri_region ?_
    refine m1 ?_
    refine m1 ?_
    refine s_build (cells' := [.sc (.string (⟨#[116, 46, 99, 111, 109]⟩ : ByteArray)), .sc (.int .i64 16), .sc (.int .i64 x1), .sc (.int .i64 0), .sc (.string (⟨#[]⟩ : ByteArray)), .sc (.string (⟨#[104, 105]⟩ : ByteArray))]) rfl stc39 rfl rfl rfl rfl rfl rfl rfl ?_
    refine m1 ?_
    refine bnd1_elim h fun x22 q23 h => ?_
    refine s_callN (kb := []) (ns := []) (v := .agg (recV x22)) rfl rfl cl143 (ws_l10Addr (⟨#[98, 46, 116, 46, 99, 111, 109]⟩ : ByteArray) 40 x1 x22 q23) rfl (.cons (.free rfl) (.cons (.free rfl) (.cons (.free rfl) .nil))) trivial memNil .nil memNil rfl trivial memNil rfl rfl rfl rfl rfl rfl ?_
    refine s_buildSlice (rows' := List.map recV [Rec.mk (⟨#[116, 46, 99, 111, 109]⟩ : ByteArray) 16 x1 0 (⟨#[]⟩ : ByteArray) (⟨#[104, 105]⟩ : ByteArray), x22]) rfl rfl rfl sl24 zc39 rfl rfl rfl rfl rfl rfl rfl rfl rfl ?_
    refine grd_elim h fun g24 h => ?_
    refine s_appL rfl rfl rfl sl24 zc39 rfl rfl rfl rfl rfl rfl (src_refL rfl rfl) g24 rfl rfl ?_
    refine m2 ?_
    refine rt_nil ?_
    refine Exists.intro ⟨(x19.b, x19.i, x19.h, j0_4 ++ ([Rec.mk (⟨#[116, 46, 99, 111, 109]⟩ : ByteArray) 16 x1 0 (⟨#[]⟩ : ByteArray) (⟨#[104, 105]⟩ : ByteArray), x22])), h⟩ ?_
    refine entX [((1000, 0), ⟨136, 3, [[.lst 1 (List.map byteV x19.b), .sc (.int .i64 x19.i), .sc (.int .i64 x19.h)]], false, false⟩, some (1000, 0)), ((2, 0), ⟨45, 2, [[.nils, .nils]], false, true⟩, some (2, 0)), ((2004, 0), ⟨39, 6, List.map recV j0_3, false, true⟩, some (2004, 0)), ((2005, 0), ⟨39, 6, List.map recV (j0_4 ++ ([Rec.mk (⟨#[116, 46, 99, 111, 109]⟩ : ByteArray) 16 x1 0 (⟨#[]⟩ : ByteArray) (⟨#[104, 105]⟩ : ByteArray), x22])), false, true⟩, some (61, 0)), ((6, 0), ⟨45, 2, [[.nils, .ref (2006, 2) 0 j0_5.length]], false, true⟩, some (6, 0)), ((2006, 2), ⟨146, 2, List.map mPostV j0_5, false, true⟩, some (2006, 2))] [] ⟨⟨rfl, _, rfl, rfl, rfl, rfl, id, rowsCv_one (.cons (.free rfl) (.cons (.free rfl) (.cons (.free rfl) .nil))), rowsZ_one rfl⟩, ⟨rfl, _, rfl, rfl, rfl, rfl, id, rowsCv_one (.cons (.free rfl) (.cons (.free rfl) .nil)), rowsZ_one rfl⟩, ⟨rfl, _, rfl, rfl, rfl, rfl, id, rowsCv_eq rfl (allFree_map recV_free), rowsZ_map recV_len⟩, ⟨rfl, _, rfl, rfl, rfl, rfl, id, rowsCv_eq rfl (allFree_map recV_free), rowsZ_map recV_len⟩, ⟨rfl, _, rfl, rfl, rfl, rfl, id, rowsCv_one (.cons (.free rfl) (.cons (.ref rfl) .nil)), rowsZ_one rfl⟩, ⟨rfl, _, rfl, rfl, rfl, rfl, id, rowsCv_eq rfl (allFree_map mPostV_free), rowsZ_map mPostV_len⟩, trivial⟩ trivial rfl rfl ?_
    exact ⟨(.ptr rfl), (.ptr rfl), (.free rfl), (.ref rfl), (.ref rfl), (.ptr rfl), trivial⟩
   ·replace h := cond_f h c21
    refine tri_skip ?_
    refine Exists.intro ⟨(x19.b, x19.i, x19.h, j0_4), h⟩ ?_
    refine entX [((1000, 0), ⟨136, 3, [[.lst 1 (List.map byteV x19.b), .sc (.int .i64 x19.i), .sc (.int .i64 x19.h)]], false, false⟩, some (1000, 0)), ((2, 0), ⟨45, 2, [[.nils, .nils]], false, true⟩, some (2, 0)), ((2004, 0), ⟨39, 6, List.map recV j0_3, false, true⟩, some (2004, 0)), ((2005, 0), ⟨39, 6, List.map recV j0_4, false, true⟩, some (2005, 0)), ((6, 0), ⟨45, 2, [[.nils, .ref (2006, 2) 0 j0_5.length]], false, true⟩, some (6, 0)), ((2006, 2), ⟨146, 2, List.map mPostV j0_5, false, true⟩, some (2006, 2))] [] ⟨⟨rfl, _, rfl, rfl, rfl, rfl, id, rowsCv_one (.cons (.free rfl) (.cons (.free rfl) (.cons (.free rfl) .nil))), rowsZ_one rfl⟩, ⟨rfl, _, rfl, rfl, rfl, rfl, id, rowsCv_one (.cons (.free rfl) (.cons (.free rfl) .nil)), rowsZ_one rfl⟩, ⟨rfl, _, rfl, rfl, rfl, rfl, id, rowsCv_eq rfl (allFree_map recV_free), rowsZ_map recV_len⟩, ⟨rfl, _, rfl, rfl, rfl, rfl, id, rowsCv_eq rfl (allFree_map recV_free), rowsZ_map recV_len⟩, ⟨rfl, _, rfl, rfl, rfl, rfl, id, rowsCv_one (.cons (.free rfl) (.cons (.ref rfl) .nil)), rowsZ_one rfl⟩, ⟨rfl, _, rfl, rfl, rfl, rfl, id, rowsCv_eq rfl (allFree_map mPostV_free), rowsZ_map mPostV_len⟩, trivial⟩ trivial rfl rfl ?_
    exact ⟨(.ptr rfl), (.ptr rfl), (.free rfl), (.ref rfl), (.ref rfl), (.ptr rfl), trivial⟩
  ·rintro ⟨⟨j1_0, j1_1, j1_2, j1_3⟩, h⟩
   replace h : s_l12Draw_j1 x1 j0_3 j0_5 j1_0 j1_1 j1_2 j1_3 = some (r0, r1) := h
   unfold s_l12Draw_j1 at h
   show Tri _ _ _ (inv_s_l12Draw_1 x1 j0_3 j0_5 j1_0 j1_1 j1_2 j1_3)
   refine tri_sr ?_
   refine m1 ?_
   refine s_buildSlice (rows' := List.map strV [(⟨#[119, 119, 119, 46, 101, 120, 46, 99, 111, 109]⟩ : ByteArray), (⟨#[119, 119, 119, 46, 97, 46, 111, 114, 103]⟩ : ByteArray), (⟨#[108, 111, 46, 111, 114, 103]⟩ : ByteArray), (⟨#[110, 111, 46, 99, 111, 109]⟩ : ByteArray), (⟨#[97, 108, 46, 111, 114, 103]⟩ : ByteArray)]) rfl rfl rfl sl33 zc9 rfl rfl rfl rfl rfl rfl rfl rfl rfl ?_
   refine bnd2_elim h fun x18 x19 q20 h => ?_
   refine s_callZ (kb := [(63, 0)]) (ns := [(1000, 0)]) (v := .sc (.string x18)) rfl rfl cl118 (ws_l1Str (Cur.mk j1_0 j1_1 j1_2) ([(⟨#[119, 119, 119, 46, 101, 120, 46, 99, 111, 109]⟩ : ByteArray), (⟨#[119, 119, 119, 46, 97, 46, 111, 114, 103]⟩ : ByteArray), (⟨#[108, 111, 46, 111, 114, 103]⟩ : ByteArray), (⟨#[110, 111, 46, 99, 111, 109]⟩ : ByteArray), (⟨#[97, 108, 46, 111, 114, 103]⟩ : ByteArray)]) x18 x19 q20) rfl (.cons (.ptrOwn rfl) (.cons (lendL rfl (.head _) rfl strV_free strV_len) .nil)) ⟨⟨_, rfl, rfl⟩, trivial⟩ (memCons (allFree_one rfl) memNil) (List.nodup_cons.2 ⟨List.not_mem_nil, .nil⟩) (by decide) ⟨⟨_, rfl, rfl⟩, trivial⟩ rfl trivial (memCons (allFree_one rfl) memNil) rfl rfl rfl rfl rfl rfl ?_
   refine m2 ?_
   refine rt_nil ?_
   refine tri_sr ?_
   refine m1 ?_
   refine m1 ?_
   refine m1 ?_
   refine s_build (cells' := [.sc (.string (⟨#[97, 108, 46, 99, 111, 109]⟩ : ByteArray)), .sc (.int .i64 5), .sc (.int .i64 x1), .sc (.int .i64 0), .sc (.string x18), .sc (.string (⟨#[]⟩ : ByteArray))]) rfl stc39 rfl rfl rfl rfl rfl rfl rfl ?_
   refine s_buildSlice (rows' := List.map recV [Rec.mk (⟨#[97, 108, 46, 99, 111, 109]⟩ : ByteArray) 5 x1 0 x18 (⟨#[]⟩ : ByteArray)]) rfl rfl rfl sl24 zc39 rfl rfl rfl rfl rfl rfl rfl rfl rfl ?_
   refine grd_elim h fun g21 h => ?_
   refine s_appL rfl rfl rfl sl24 zc39 rfl rfl rfl rfl rfl rfl (src_refL rfl rfl) g21 rfl rfl ?_
   refine m2 ?_
   refine rt_nil ?_
   refine tri_cutI (ι := { p : (List Int) × Int × Int × (List Rec) // s_l12Draw_j2 x1 j0_3 j0_5 p.1 p.2.1 p.2.2.1 p.2.2.2 = some (r0, r1) }) (fun p => inv_s_l12Draw_2 x1 j0_3 j0_5 p.1.1 p.1.2.1 p.1.2.2.1 p.1.2.2.2) ?_ ?_
   ·skip
    refine tri_sr ?_
    refine m1 ?_
    refine bnd2_elim h fun x22 x23 q24 h => ?_
    refine s_callZ (kb := []) (ns := [(1000, 0)]) (v := .sc (.bool x22)) rfl rfl cl113 (ws_l1Once x19 3 x22 x23 q24) rfl (.cons (.ptrOwn rfl) (.cons (.free rfl) .nil)) ⟨⟨_, rfl, rfl⟩, trivial⟩ (memCons (allFree_one rfl) memNil) (List.nodup_cons.2 ⟨List.not_mem_nil, .nil⟩) memNil trivial rfl trivial (memCons (allFree_one rfl) memNil) rfl rfl rfl rfl rfl rfl ?_
    refine rt_nil ?_
    refine tri_cond rfl (fun c25 => ?_) (fun c25 => ?_)
    ·replace h := cond_t h c25
     refine tri_region ?_
     refine m1 ?_
     refine m1 ?_
     refine s_build (cells' := [.sc (.string (⟨#[108, 111, 46, 99, 111, 109]⟩ : ByteArray)), .sc (.int .i64 5), .sc (.int .i64 x1), .sc (.int .i64 0), .sc (.string (⟨#[108, 111, 46, 111, 114, 103]⟩ : ByteArray)), .sc (.string (⟨#[]⟩ : ByteArray))]) rfl stc39 rfl rfl rfl rfl rfl rfl rfl ?_
     refine s_buildSlice (rows' := List.map recV [Rec.mk (⟨#[108, 111, 46, 99, 111, 109]⟩ : ByteArray) 5 x1 0 (⟨#[108, 111, 46, 111, 114, 103]⟩ : ByteArray) (⟨#[]⟩ : ByteArray)]) rfl rfl rfl sl24 zc39 rfl rfl rfl rfl rfl rfl rfl rfl rfl ?_
     refine grd_elim h fun g26 h => ?_
     refine s_appL rfl rfl rfl sl24 zc39 rfl rfl rfl rfl rfl rfl (src_refL rfl rfl) g26 rfl rfl ?_
     refine m2 ?_
     refine rt_nil ?_
     refine Exists.intro ⟨(x23.b, x23.i, x23.h, (j1_3 ++ ([Rec.mk (⟨#[97, 108, 46, 99, 111, 109]⟩ : ByteArray) 5 x1 0 x18 (⟨#[]⟩ : ByteArray)])) ++ ([Rec.mk (⟨#[108, 111, 46, 99, 111, 109]⟩ : ByteArray) 5 x1 0 (⟨#[108, 111, 46, 111, 114, 103]⟩ : ByteArray) (⟨#[]⟩ : ByteArray)])), h⟩ ?_
     refine entX [((1000, 0), ⟨136, 3, [[.lst 1 (List.map byteV x23.b), .sc (.int .i64 x23.i), .sc (.int .i64 x23.h)]], false, false⟩, some (1000, 0)), ((2, 0), ⟨45, 2, [[.nils, .nils]], false, true⟩, some (2, 0)), ((2004, 0), ⟨39, 6, List.map recV j0_3, false, true⟩, some (2004, 0)), ((2005, 0), ⟨39, 6, List.map recV ((j1_3 ++ ([Rec.mk (⟨#[97, 108, 46, 99, 111, 109]⟩ : ByteArray) 5 x1 0 x18 (⟨#[]⟩ : ByteArray)])) ++ ([Rec.mk (⟨#[108, 111, 46, 99, 111, 109]⟩ : ByteArray) 5 x1 0 (⟨#[108, 111, 46, 111, 114, 103]⟩ : ByteArray) (⟨#[]⟩ : ByteArray)])), false, true⟩, some (77, 0)), ((6, 0), ⟨45, 2, [[.nils, .ref (2006, 2) 0 j0_5.length]], false, true⟩, some (6, 0)), ((2006, 2), ⟨146, 2, List.map mPostV j0_5, false, true⟩, some (2006, 2))] [] ⟨⟨rfl, _, rfl, rfl, rfl, rfl, id, rowsCv_one (.cons (.free rfl) (.cons (.free rfl) (.cons (.free rfl) .nil))), rowsZ_one rfl⟩, ⟨rfl, _, rfl, rfl, rfl, rfl, id, rowsCv_one (.cons (.free rfl) (.cons (.free rfl) .nil)), rowsZ_one rfl⟩, ⟨rfl, _, rfl, rfl, rfl, rfl, id, rowsCv_eq rfl (allFree_map recV_free), rowsZ_map recV_len⟩, ⟨rfl, _, rfl, rfl, rfl, rfl, id, rowsCv_eq rfl (allFree_map recV_free), rowsZ_map recV_len⟩, ⟨rfl, _, rfl, rfl, rfl, rfl, id, rowsCv_one (.cons (.free rfl) (.cons (.ref rfl) .nil)), rowsZ_one rfl⟩, ⟨rfl, _, rfl, rfl, rfl, rfl, id, rowsCv_eq rfl (allFree_map mPostV_free), rowsZ_map mPostV_len⟩, trivial⟩ trivial rfl rfl ?_
     exact ⟨(.ptr rfl), (.ptr rfl), (.free rfl), (.ref rfl), (.ref rfl), (.ptr rfl), trivial⟩
    ·replace h := cond_f h c25
     refine tri_skip ?_
     refine Exists.intro ⟨(x23.b, x23.i, x23.h, j1_3 ++ ([Rec.mk (⟨#[97, 108, 46, 99, 111, 109]⟩ : ByteArray) 5 x1 0 x18 (⟨#[]⟩ : ByteArray)])), h⟩ ?_
     refine entX [((1000, 0), ⟨136, 3, [[.lst 1 (List.map byteV x23.b), .sc (.int .i64 x23.i), .sc (.int .i64 x23.h)]], false, false⟩, some (1000, 0)), ((2, 0), ⟨45, 2, [[.nils, .nils]], false, true⟩, some (2, 0)), ((2004, 0), ⟨39, 6, List.map recV j0_3, false, true⟩, some (2004, 0)), ((2005, 0), ⟨39, 6, List.map recV (j1_3 ++ ([Rec.mk (⟨#[97, 108, 46, 99, 111, 109]⟩ : ByteArray) 5 x1 0 x18 (⟨#[]⟩ : ByteArray)])), false, true⟩, some (70, 0)), ((6, 0), ⟨45, 2, [[.nils, .ref (2006, 2) 0 j0_5.length]], false, true⟩, some (6, 0)), ((2006, 2), ⟨146, 2, List.map mPostV j0_5, false, true⟩, some (2006, 2))] [] ⟨⟨rfl, _, rfl, rfl, rfl, rfl, id, rowsCv_one (.cons (.free rfl) (.cons (.free rfl) (.cons (.free rfl) .nil))), rowsZ_one rfl⟩, ⟨rfl, _, rfl, rfl, rfl, rfl, id, rowsCv_one (.cons (.free rfl) (.cons (.free rfl) .nil)), rowsZ_one rfl⟩, ⟨rfl, _, rfl, rfl, rfl, rfl, id, rowsCv_eq rfl (allFree_map recV_free), rowsZ_map recV_len⟩, ⟨rfl, _, rfl, rfl, rfl, rfl, id, rowsCv_eq rfl (allFree_map recV_free), rowsZ_map recV_len⟩, ⟨rfl, _, rfl, rfl, rfl, rfl, id, rowsCv_one (.cons (.free rfl) (.cons (.ref rfl) .nil)), rowsZ_one rfl⟩, ⟨rfl, _, rfl, rfl, rfl, rfl, id, rowsCv_eq rfl (allFree_map mPostV_free), rowsZ_map mPostV_len⟩, trivial⟩ trivial rfl rfl ?_
     exact ⟨(.ptr rfl), (.ptr rfl), (.free rfl), (.ref rfl), (.ref rfl), (.ptr rfl), trivial⟩
   ·rintro ⟨⟨j2_0, j2_1, j2_2, j2_3⟩, h⟩
    replace h : s_l12Draw_j2 x1 j0_3 j0_5 j2_0 j2_1 j2_2 j2_3 = some (r0, r1) := h
    unfold s_l12Draw_j2 at h
    show Tri _ _ _ (inv_s_l12Draw_2 x1 j0_3 j0_5 j2_0 j2_1 j2_2 j2_3)
    refine tri_sr ?_
    refine m1 ?_
    refine bnd1_elim h fun x22 q23 h => ?_
    refine s_callN (kb := []) (ns := []) (v := .agg (recV x22)) rfl rfl cl141 (ws_l10Start (⟨#[111, 114, 103]⟩ : ByteArray) x1 x22 q23) rfl (.cons (.free rfl) (.cons (.free rfl) .nil)) trivial memNil .nil memNil rfl trivial memNil rfl rfl rfl rfl rfl rfl ?_
    refine s_buildSlice (rows' := List.map recV [x22]) rfl rfl rfl sl24 zc39 rfl rfl rfl rfl rfl rfl rfl rfl rfl ?_
    refine m2 ?_
    refine rt_nil ?_
    refine tri_sr ?_
    refine s_mv (.inr rfl) (v := .sc (.string (⟨#[110, 115, 46, 111, 114, 103]⟩ : ByteArray))) rfl rfl rfl rfl ?_
    refine rt_nil ?_
    refine tri_cutI (ι := { p : (List Int) × Int × Int × (List Rec) × (List Rec) × ByteArray // s_l12Draw_j3 x1 j0_5 j2_3 p.1 p.2.1 p.2.2.1 p.2.2.2.1 p.2.2.2.2.1 p.2.2.2.2.2 = some (r0, r1) }) (fun p => inv_s_l12Draw_3 x1 j0_5 j2_3 p.1.1 p.1.2.1 p.1.2.2.1 p.1.2.2.2.1 p.1.2.2.2.2.1 p.1.2.2.2.2.2) ?_ ?_
    ·skip
     refine tri_sr ?_
     refine m1 ?_
     refine bnd2_elim h fun x24 x25 q26 h => ?_
     refine s_callZ (kb := []) (ns := [(1000, 0)]) (v := .sc (.bool x24)) rfl rfl cl113 (ws_l1Once (Cur.mk j2_0 j2_1 j2_2) 2 x24 x25 q26) rfl (.cons (.ptrOwn rfl) (.cons (.free rfl) .nil)) ⟨⟨_, rfl, rfl⟩, trivial⟩ (memCons (allFree_one rfl) memNil) (List.nodup_cons.2 ⟨List.not_mem_nil, .nil⟩) memNil trivial rfl trivial (memCons (allFree_one rfl) memNil) rfl rfl rfl rfl rfl rfl ?_
     refine rt_nil ?_
     refine tri_cond rfl (fun c27 => ?_) (fun c27 => ?_)
     ·replace h := cond_t h c27
      refine tri_region ?_
      refine s_mv (.inr rfl) (v := .sc (.string (⟨#[110, 115, 46, 101, 120, 46, 99, 111, 109]⟩ : ByteArray))) rfl rfl rfl rfl ?_
      refine rt_nil ?_
      refine Exists.intro ⟨(x25.b, x25.i, x25.h, j0_3, [x22], (⟨#[110, 115, 46, 101, 120, 46, 99, 111, 109]⟩ : ByteArray)), h⟩ ?_
      refine entX [((1000, 0), ⟨136, 3, [[.lst 1 (List.map byteV x25.b), .sc (.int .i64 x25.i), .sc (.int .i64 x25.h)]], false, false⟩, some (1000, 0)), ((2, 0), ⟨45, 2, [[.nils, .nils]], false, true⟩, some (2, 0)), ((2004, 0), ⟨39, 6, List.map recV j0_3, false, true⟩, some (2004, 0)), ((2005, 0), ⟨39, 6, List.map recV j2_3, false, true⟩, some (2005, 0)), ((6, 0), ⟨45, 2, [[.nils, .ref (2006, 2) 0 j0_5.length]], false, true⟩, some (6, 0)), ((2006, 2), ⟨146, 2, List.map mPostV j0_5, false, true⟩, some (2006, 2)), ((2008, 0), ⟨39, 6, List.map recV [x22], false, true⟩, some (80, 0))] [] ⟨⟨rfl, _, rfl, rfl, rfl, rfl, id, rowsCv_one (.cons (.free rfl) (.cons (.free rfl) (.cons (.free rfl) .nil))), rowsZ_one rfl⟩, ⟨rfl, _, rfl, rfl, rfl, rfl, id, rowsCv_one (.cons (.free rfl) (.cons (.free rfl) .nil)), rowsZ_one rfl⟩, ⟨rfl, _, rfl, rfl, rfl, rfl, id, rowsCv_eq rfl (allFree_map recV_free), rowsZ_map recV_len⟩, ⟨rfl, _, rfl, rfl, rfl, rfl, id, rowsCv_eq rfl (allFree_map recV_free), rowsZ_map recV_len⟩, ⟨rfl, _, rfl, rfl, rfl, rfl, id, rowsCv_one (.cons (.free rfl) (.cons (.ref rfl) .nil)), rowsZ_one rfl⟩, ⟨rfl, _, rfl, rfl, rfl, rfl, id, rowsCv_eq rfl (allFree_map mPostV_free), rowsZ_map mPostV_len⟩, ⟨rfl, _, rfl, rfl, rfl, rfl, id, rowsCv_eq rfl (allFree_map recV_free), rowsZ_map recV_len⟩, trivial⟩ trivial rfl rfl ?_
      exact ⟨(.ptr rfl), (.free rfl), (.ref rfl), (.ref rfl), (.ptr rfl), (.ref rfl), (.free rfl), trivial⟩
     ·replace h := cond_f h c27
      refine tri_sr ?_
      refine m1 ?_
      refine m1 ?_
      refine bnd1_elim h fun x28 q29 h => ?_
      refine s_callN (kb := []) (ns := []) (v := .agg (recV x28)) rfl rfl cl143 (ws_l10Addr (⟨#[110, 115, 46, 111, 114, 103]⟩ : ByteArray) 4 x1 x28 q29) rfl (.cons (.free rfl) (.cons (.free rfl) (.cons (.free rfl) .nil))) trivial memNil .nil memNil rfl trivial memNil rfl rfl rfl rfl rfl rfl ?_
      refine s_buildSlice (rows' := List.map recV [x28]) rfl rfl rfl sl24 zc39 rfl rfl rfl rfl rfl rfl rfl rfl rfl ?_
      refine grd_elim h fun g30 h => ?_
      refine s_appL rfl rfl rfl sl24 zc39 rfl rfl rfl rfl rfl rfl (src_refL rfl rfl) g30 rfl rfl ?_
      refine m2 ?_
      refine rt_nil ?_
      refine tri_region ?_
      refine m1 ?_
      refine m1 ?_
      refine bnd1_elim h fun x31 q32 h => ?_
      refine s_callN (kb := []) (ns := []) (v := .agg (recV x31)) rfl rfl cl143 (ws_l10Addr (⟨#[110, 115, 46, 111, 114, 103]⟩ : ByteArray) 4 x1 x31 q32) rfl (.cons (.free rfl) (.cons (.free rfl) (.cons (.free rfl) .nil))) trivial memNil .nil memNil rfl trivial memNil rfl rfl rfl rfl rfl rfl ?_
      refine s_buildSlice (rows' := List.map recV [x31]) rfl rfl rfl sl24 zc39 rfl rfl rfl rfl rfl rfl rfl rfl rfl ?_
      refine grd_elim h fun g33 h => ?_
      refine s_appL rfl rfl rfl sl24 zc39 rfl rfl rfl rfl rfl rfl (src_refL rfl rfl) g33 rfl rfl ?_
      refine m2 ?_
      refine rt_nil ?_
      refine Exists.intro ⟨(x25.b, x25.i, x25.h, j0_3 ++ [x31], [x22] ++ [x28], (⟨#[110, 115, 46, 111, 114, 103]⟩ : ByteArray)), h⟩ ?_
      refine entX [((1000, 0), ⟨136, 3, [[.lst 1 (List.map byteV x25.b), .sc (.int .i64 x25.i), .sc (.int .i64 x25.h)]], false, false⟩, some (1000, 0)), ((2, 0), ⟨45, 2, [[.nils, .nils]], false, true⟩, some (2, 0)), ((2004, 0), ⟨39, 6, List.map recV (j0_3 ++ [x31]), false, true⟩, some (92, 0)), ((2005, 0), ⟨39, 6, List.map recV j2_3, false, true⟩, some (2005, 0)), ((6, 0), ⟨45, 2, [[.nils, .ref (2006, 2) 0 j0_5.length]], false, true⟩, some (6, 0)), ((2006, 2), ⟨146, 2, List.map mPostV j0_5, false, true⟩, some (2006, 2)), ((2008, 0), ⟨39, 6, List.map recV ([x22] ++ [x28]), false, true⟩, some (87, 0))] [] ⟨⟨rfl, _, rfl, rfl, rfl, rfl, id, rowsCv_one (.cons (.free rfl) (.cons (.free rfl) (.cons (.free rfl) .nil))), rowsZ_one rfl⟩, ⟨rfl, _, rfl, rfl, rfl, rfl, id, rowsCv_one (.cons (.free rfl) (.cons (.free rfl) .nil)), rowsZ_one rfl⟩, ⟨rfl, _, rfl, rfl, rfl, rfl, id, rowsCv_eq rfl (allFree_map recV_free), rowsZ_map recV_len⟩, ⟨rfl, _, rfl, rfl, rfl, rfl, id, rowsCv_eq rfl (allFree_map recV_free), rowsZ_map recV_len⟩, ⟨rfl, _, rfl, rfl, rfl, rfl, id, rowsCv_one (.cons (.free rfl) (.cons (.ref rfl) .nil)), rowsZ_one rfl⟩, ⟨rfl, _, rfl, rfl, rfl, rfl, id, rowsCv_eq rfl (allFree_map mPostV_free), rowsZ_map mPostV_len⟩, ⟨rfl, _, rfl, rfl, rfl, rfl, id, rowsCv_eq rfl (allFree_map recV_free), rowsZ_map recV_len⟩, trivial⟩ trivial rfl rfl ?_
      exact ⟨(.ptr rfl), (.free rfl), (.ref rfl), (.ref rfl), (.ptr rfl), (.ref rfl), (.free rfl), trivial⟩
    ·rintro ⟨⟨j3_0, j3_1, j3_2, j3_3, j3_4, j3_5⟩, h⟩
     replace h : s_l12Draw_j3 x1 j0_5 j2_3 j3_0 j3_1 j3_2 j3_3 j3_4 j3_5 = some (r0, r1) := h
     unfold s_l12Draw_j3 at h
     show Tri _ _ _ (inv_s_l12Draw_3 x1 j0_5 j2_3 j3_0 j3_1 j3_2 j3_3 j3_4 j3_5)
     refine tri_sr ?_
     refine m1 ?_
     refine m1 ?_
     refine m1 ?_
     refine bnd1_elim h fun x24 q25 h => ?_
     refine s_callN (kb := []) (ns := []) (v := .agg (recV x24)) rfl rfl cl142 (ws_l10Server (⟨#[111, 114, 103]⟩ : ByteArray) j3_5 x1 x24 q25) rfl (.cons (.free rfl) (.cons (.free rfl) (.cons (.free rfl) .nil))) trivial memNil .nil memNil rfl trivial memNil rfl rfl rfl rfl rfl rfl ?_
     refine m1 ?_
     refine bnd1_elim h fun x26 q27 h => ?_
     refine s_callN (kb := []) (ns := []) (v := .agg (recV x26)) rfl rfl cl143 (ws_l10Addr (⟨#[119, 119, 119, 46, 97, 46, 111, 114, 103]⟩ : ByteArray) 9 x1 x26 q27) rfl (.cons (.free rfl) (.cons (.free rfl) (.cons (.free rfl) .nil))) trivial memNil .nil memNil rfl trivial memNil rfl rfl rfl rfl rfl rfl ?_
     refine m1 ?_
     refine s_build (cells' := [.sc (.string (⟨#[97, 108, 46, 111, 114, 103]⟩ : ByteArray)), .sc (.int .i64 5), .sc (.int .i64 x1), .sc (.int .i64 0), .sc (.string (⟨#[119, 119, 119, 46, 101, 120, 46, 99, 111, 109]⟩ : ByteArray)), .sc (.string (⟨#[]⟩ : ByteArray))]) rfl stc39 rfl rfl rfl rfl rfl rfl rfl ?_
     refine m1 ?_
     refine s_build (cells' := [.sc (.string (⟨#[108, 111, 46, 111, 114, 103]⟩ : ByteArray)), .sc (.int .i64 5), .sc (.int .i64 x1), .sc (.int .i64 0), .sc (.string (⟨#[108, 111, 46, 99, 111, 109]⟩ : ByteArray)), .sc (.string (⟨#[]⟩ : ByteArray))]) rfl stc39 rfl rfl rfl rfl rfl rfl rfl ?_
     refine s_buildSlice (rows' := List.map recV [x24, x26, Rec.mk (⟨#[97, 108, 46, 111, 114, 103]⟩ : ByteArray) 5 x1 0 (⟨#[119, 119, 119, 46, 101, 120, 46, 99, 111, 109]⟩ : ByteArray) (⟨#[]⟩ : ByteArray), Rec.mk (⟨#[108, 111, 46, 111, 114, 103]⟩ : ByteArray) 5 x1 0 (⟨#[108, 111, 46, 99, 111, 109]⟩ : ByteArray) (⟨#[]⟩ : ByteArray)]) rfl rfl rfl sl24 zc39 rfl rfl rfl rfl rfl rfl rfl rfl rfl ?_
     refine grd_elim h fun g28 h => ?_
     refine s_appL rfl rfl rfl sl24 zc39 rfl rfl rfl rfl rfl rfl (src_refL rfl rfl) g28 rfl rfl ?_
     refine m2 ?_
     refine rt_nil ?_
     refine tri_sr ?_
     refine m1 ?_
     refine m1 ?_
     refine m1 ?_
     refine bnd1_elim h fun x29 q30 h => ?_
     refine s_callN (kb := []) (ns := []) (v := .agg (recV x29)) rfl rfl cl142 (ws_l10Server (⟨#[111, 114, 103]⟩ : ByteArray) j3_5 x1 x29 q30) rfl (.cons (.free rfl) (.cons (.free rfl) (.cons (.free rfl) .nil))) trivial memNil .nil memNil rfl trivial memNil rfl rfl rfl rfl rfl rfl ?_
     refine s_buildSlice (rows' := List.map recV [x29]) rfl rfl rfl sl24 zc39 rfl rfl rfl rfl rfl rfl rfl rfl rfl ?_
     refine grd_elim h fun g31 h => ?_
     refine s_appL rfl rfl rfl sl24 zc39 rfl rfl rfl rfl rfl rfl (src_refL rfl rfl) g31 rfl rfl ?_
     refine m2 ?_
     refine rt_nil ?_
     refine tri_sr ?_
     refine m1 ?_
     refine bnd1_elim h fun x32 q33 h => ?_
     refine s_callN (kb := []) (ns := []) (v := .agg (recV x32)) rfl rfl cl141 (ws_l10Start (⟨#[101, 120, 46, 99, 111, 109]⟩ : ByteArray) x1 x32 q33) rfl (.cons (.free rfl) (.cons (.free rfl) .nil)) trivial memNil .nil memNil rfl trivial memNil rfl rfl rfl rfl rfl rfl ?_
     refine m1 ?_
     refine bnd1_elim h fun x34 q35 h => ?_
     refine s_callN (kb := []) (ns := []) (v := .agg (recV x34)) rfl rfl cl142 (ws_l10Server (⟨#[101, 120, 46, 99, 111, 109]⟩ : ByteArray) (⟨#[110, 115, 46, 101, 120, 46, 99, 111, 109]⟩ : ByteArray) x1 x34 q35) rfl (.cons (.free rfl) (.cons (.free rfl) (.cons (.free rfl) .nil))) trivial memNil .nil memNil rfl trivial memNil rfl rfl rfl rfl rfl rfl ?_
     refine m1 ?_
     refine bnd1_elim h fun x36 q37 h => ?_
     refine s_callN (kb := []) (ns := []) (v := .agg (recV x36)) rfl rfl cl143 (ws_l10Addr (⟨#[110, 115, 46, 101, 120, 46, 99, 111, 109]⟩ : ByteArray) 3 x1 x36 q37) rfl (.cons (.free rfl) (.cons (.free rfl) (.cons (.free rfl) .nil))) trivial memNil .nil memNil rfl trivial memNil rfl rfl rfl rfl rfl rfl ?_
     refine m1 ?_
     refine bnd1_elim h fun x38 q39 h => ?_
     refine s_callN (kb := []) (ns := []) (v := .agg (recV x38)) rfl rfl cl143 (ws_l10Addr (⟨#[119, 119, 119, 46, 101, 120, 46, 99, 111, 109]⟩ : ByteArray) 7 x1 x38 q39) rfl (.cons (.free rfl) (.cons (.free rfl) (.cons (.free rfl) .nil))) trivial memNil .nil memNil rfl trivial memNil rfl rfl rfl rfl rfl rfl ?_
     refine m1 ?_
     refine bnd1_elim h fun x40 q41 h => ?_
     refine s_callN (kb := []) (ns := []) (v := .agg (recV x40)) rfl rfl cl143 (ws_l10Addr (⟨#[119, 119, 119, 46, 101, 120, 46, 99, 111, 109]⟩ : ByteArray) 8 x1 x40 q41) rfl (.cons (.free rfl) (.cons (.free rfl) (.cons (.free rfl) .nil))) trivial memNil .nil memNil rfl trivial memNil rfl rfl rfl rfl rfl rfl ?_
     refine s_buildSlice (rows' := List.map recV [x32, x34, x36, x38, x40]) rfl rfl rfl sl24 zc39 rfl rfl rfl rfl rfl rfl rfl rfl rfl ?_
     refine m2 ?_
     refine rt_nil ?_
     refine tri_sr ?_
     refine m1 ?_
     refine m1 ?_
     refine bnd1_elim h fun x42 q43 h => ?_
     refine s_callN (kb := []) (ns := []) (v := .agg (recV x42)) rfl rfl cl142 (ws_l10Server (⟨#[101, 120, 46, 99, 111, 109]⟩ : ByteArray) (⟨#[110, 115, 46, 101, 120, 46, 99, 111, 109]⟩ : ByteArray) x1 x42 q43) rfl (.cons (.free rfl) (.cons (.free rfl) (.cons (.free rfl) .nil))) trivial memNil .nil memNil rfl trivial memNil rfl rfl rfl rfl rfl rfl ?_
     refine m1 ?_
     refine bnd1_elim h fun x44 q45 h => ?_
     refine s_callN (kb := []) (ns := []) (v := .agg (recV x44)) rfl rfl cl143 (ws_l10Addr (⟨#[110, 115, 46, 101, 120, 46, 99, 111, 109]⟩ : ByteArray) 3 x1 x44 q45) rfl (.cons (.free rfl) (.cons (.free rfl) (.cons (.free rfl) .nil))) trivial memNil .nil memNil rfl trivial memNil rfl rfl rfl rfl rfl rfl ?_
     refine s_buildSlice (rows' := List.map recV [x42, x44]) rfl rfl rfl sl24 zc39 rfl rfl rfl rfl rfl rfl rfl rfl rfl ?_
     refine grd_elim h fun g46 h => ?_
     refine s_appL rfl rfl rfl sl24 zc39 rfl rfl rfl rfl rfl rfl (src_refL rfl rfl) g46 rfl rfl ?_
     refine m2 ?_
     refine rt_nil ?_
     refine tri_sr ?_
     refine s_fieldAddr rfl rfl fd45_1 rfl rfl rfl rfl ?_
     refine s_load rfl rfl rfl rfl ty43 rfl (.inr rfl) (by conv => lhs; whnf) rfl rfl rfl ?_
     refine s_build (cells' := [.sc (.int .i64 3), .sc (.string (⟨#[101, 120, 46, 99, 111, 109]⟩ : ByteArray))]) rfl stc146 rfl rfl rfl rfl rfl rfl rfl ?_
     refine s_buildSlice (rows' := List.map mPostV [MPost.mk 3 (⟨#[101, 120, 46, 99, 111, 109]⟩ : ByteArray)]) rfl rfl rfl sl43 zc146 rfl rfl rfl rfl rfl rfl rfl rfl rfl ?_
     refine grd_elim h fun g47 h => ?_
     refine s_appL rfl rfl rfl sl43 zc146 rfl rfl rfl rfl rfl rfl (src_refL rfl rfl) g47 rfl rfl ?_
     refine s_fieldAddr rfl rfl fd45_1 rfl rfl rfl rfl ?_
     refine s_store (rows' := [[.nils, .ref (133, 0) 0 ((j0_5 ++ ([MPost.mk 3 (⟨#[101, 120, 46, 99, 111, 109]⟩ : ByteArray)])).length)]]) rfl rfl rfl rfl ty43 rfl rfl rfl rfl rfl rfl ?_
     refine rt_nil ?_
     refine tri_cutI (ι := { p : (List MPost) // s_l12Draw_j4 x1 j2_3 j3_0 j3_1 j3_2 j3_3 j3_4 x24 x26 x29 x32 x34 x36 x38 x40 x42 x44 p = some (r0, r1) }) (fun p => inv_s_l12Draw_4 x1 j2_3 j3_0 j3_1 j3_2 j3_3 j3_4 x24 x26 x29 x32 x34 x36 x38 x40 x42 x44 p.1) ?_ ?_
     ·skip
      refine tri_sr ?_
      refine m1 ?_
      refine s_of (st_eqS rfl rfl rfl) rfl rfl rfl rfl ?_
      refine rt_nil ?_
      refine tri_cond rfl (fun c48 => ?_) (fun c48 => ?_)
      ·replace h := cond_t h c48
       refine tri_region ?_
       refine s_fieldAddr rfl rfl fd45_1 rfl rfl rfl rfl ?_
       refine s_load rfl rfl rfl rfl ty43 rfl (.inr rfl) (by conv => lhs; whnf) rfl rfl rfl ?_
       refine s_build (cells' := [.sc (.int .i64 4), .sc (.string (⟨#[111, 114, 103]⟩ : ByteArray))]) rfl stc146 rfl rfl rfl rfl rfl rfl rfl ?_
       refine s_buildSlice (rows' := List.map mPostV [MPost.mk 4 (⟨#[111, 114, 103]⟩ : ByteArray)]) rfl rfl rfl sl43 zc146 rfl rfl rfl rfl rfl rfl rfl rfl rfl ?_
       refine grd_elim h fun g49 h => ?_
       refine s_appL rfl rfl rfl sl43 zc146 rfl rfl rfl rfl rfl rfl (src_refL rfl rfl) g49 rfl rfl ?_
       refine s_fieldAddr rfl rfl fd45_1 rfl rfl rfl rfl ?_
       refine s_store (rows' := [[.nils, .ref (141, 0) 0 (((j0_5 ++ ([MPost.mk 3 (⟨#[101, 120, 46, 99, 111, 109]⟩ : ByteArray)])) ++ ([MPost.mk 4 (⟨#[111, 114, 103]⟩ : ByteArray)])).length)]]) rfl rfl rfl rfl ty43 rfl rfl rfl rfl rfl rfl ?_
       refine rt_nil ?_
       refine Exists.intro ⟨(j0_5 ++ ([MPost.mk 3 (⟨#[101, 120, 46, 99, 111, 109]⟩ : ByteArray)])) ++ ([MPost.mk 4 (⟨#[111, 114, 103]⟩ : ByteArray)]), h⟩ ?_
       refine entX [((1000, 0), ⟨136, 3, [[.lst 1 (List.map byteV j3_0), .sc (.int .i64 j3_1), .sc (.int .i64 j3_2)]], false, false⟩, some (1000, 0)), ((2, 0), ⟨45, 2, [[.nils, .nils]], false, true⟩, some (2, 0)), ((110, 0), ⟨39, 6, List.map recV (j3_3 ++ [x29]), false, true⟩, some (110, 0)), ((128, 0), ⟨39, 6, List.map recV (j2_3 ++ [x42, x44]), false, true⟩, some (128, 0)), ((6, 0), ⟨45, 2, [[.nils, .ref (2006, 2) 0 ((j0_5 ++ ([MPost.mk 3 (⟨#[101, 120, 46, 99, 111, 109]⟩ : ByteArray)])) ++ ([MPost.mk 4 (⟨#[111, 114, 103]⟩ : ByteArray)])).length]], false, true⟩, some (6, 0)), ((2006, 2), ⟨146, 2, List.map mPostV ((j0_5 ++ ([MPost.mk 3 (⟨#[101, 120, 46, 99, 111, 109]⟩ : ByteArray)])) ++ ([MPost.mk 4 (⟨#[111, 114, 103]⟩ : ByteArray)])), false, true⟩, some (141, 0)), ((104, 0), ⟨39, 6, List.map recV (j3_4 ++ ([x24, x26, Rec.mk (⟨#[97, 108, 46, 111, 114, 103]⟩ : ByteArray) 5 x1 0 (⟨#[119, 119, 119, 46, 101, 120, 46, 99, 111, 109]⟩ : ByteArray) (⟨#[]⟩ : ByteArray), Rec.mk (⟨#[108, 111, 46, 111, 114, 103]⟩ : ByteArray) 5 x1 0 (⟨#[108, 111, 46, 99, 111, 109]⟩ : ByteArray) (⟨#[]⟩ : ByteArray)])), false, true⟩, some (104, 0)), ((121, 0), ⟨39, 6, List.map recV [x32, x34, x36, x38, x40], false, true⟩, some (121, 0))] [] ⟨⟨rfl, _, rfl, rfl, rfl, rfl, id, rowsCv_one (.cons (.free rfl) (.cons (.free rfl) (.cons (.free rfl) .nil))), rowsZ_one rfl⟩, ⟨rfl, _, rfl, rfl, rfl, rfl, id, rowsCv_one (.cons (.free rfl) (.cons (.free rfl) .nil)), rowsZ_one rfl⟩, ⟨rfl, _, rfl, rfl, rfl, rfl, id, rowsCv_eq rfl (allFree_map recV_free), rowsZ_map recV_len⟩, ⟨rfl, _, rfl, rfl, rfl, rfl, id, rowsCv_eq rfl (allFree_map recV_free), rowsZ_map recV_len⟩, ⟨rfl, _, rfl, rfl, rfl, rfl, id, rowsCv_one (.cons (.free rfl) (.cons (.ref rfl) .nil)), rowsZ_one rfl⟩, ⟨rfl, _, rfl, rfl, rfl, rfl, id, rowsCv_eq rfl (allFree_map mPostV_free), rowsZ_map mPostV_len⟩, ⟨rfl, _, rfl, rfl, rfl, rfl, id, rowsCv_eq rfl (allFree_map recV_free), rowsZ_map recV_len⟩, ⟨rfl, _, rfl, rfl, rfl, rfl, id, rowsCv_eq rfl (allFree_map recV_free), rowsZ_map recV_len⟩, trivial⟩ trivial rfl rfl ?_
       exact ⟨(.ptr rfl), (.ref rfl), (.ref rfl), (.ptr rfl), (.ref rfl), (.ref rfl), trivial⟩
      ·replace h := cond_f h c48
       refine tri_region ?_
       refine s_fieldAddr rfl rfl fd45_1 rfl rfl rfl rfl ?_
       refine s_load rfl rfl rfl rfl ty43 rfl (.inr rfl) (by conv => lhs; whnf) rfl rfl rfl ?_
       refine s_build (cells' := [.sc (.int .i64 3), .sc (.string (⟨#[111, 114, 103]⟩ : ByteArray))]) rfl stc146 rfl rfl rfl rfl rfl rfl rfl ?_
       refine s_buildSlice (rows' := List.map mPostV [MPost.mk 3 (⟨#[111, 114, 103]⟩ : ByteArray)]) rfl rfl rfl sl43 zc146 rfl rfl rfl rfl rfl rfl rfl rfl rfl ?_
       refine grd_elim h fun g50 h => ?_
       refine s_appL rfl rfl rfl sl43 zc146 rfl rfl rfl rfl rfl rfl (src_refL rfl rfl) g50 rfl rfl ?_
       refine s_fieldAddr rfl rfl fd45_1 rfl rfl rfl rfl ?_
       refine s_store (rows' := [[.nils, .ref (147, 0) 0 (((j0_5 ++ ([MPost.mk 3 (⟨#[101, 120, 46, 99, 111, 109]⟩ : ByteArray)])) ++ ([MPost.mk 3 (⟨#[111, 114, 103]⟩ : ByteArray)])).length)]]) rfl rfl rfl rfl ty43 rfl rfl rfl rfl rfl rfl ?_
       refine rt_nil ?_
       refine Exists.intro ⟨(j0_5 ++ ([MPost.mk 3 (⟨#[101, 120, 46, 99, 111, 109]⟩ : ByteArray)])) ++ ([MPost.mk 3 (⟨#[111, 114, 103]⟩ : ByteArray)]), h⟩ ?_
       refine entX [((1000, 0), ⟨136, 3, [[.lst 1 (List.map byteV j3_0), .sc (.int .i64 j3_1), .sc (.int .i64 j3_2)]], false, false⟩, some (1000, 0)), ((2, 0), ⟨45, 2, [[.nils, .nils]], false, true⟩, some (2, 0)), ((110, 0), ⟨39, 6, List.map recV (j3_3 ++ [x29]), false, true⟩, some (110, 0)), ((128, 0), ⟨39, 6, List.map recV (j2_3 ++ [x42, x44]), false, true⟩, some (128, 0)), ((6, 0), ⟨45, 2, [[.nils, .ref (2006, 2) 0 ((j0_5 ++ ([MPost.mk 3 (⟨#[101, 120, 46, 99, 111, 109]⟩ : ByteArray)])) ++ ([MPost.mk 3 (⟨#[111, 114, 103]⟩ : ByteArray)])).length]], false, true⟩, some (6, 0)), ((2006, 2), ⟨146, 2, List.map mPostV ((j0_5 ++ ([MPost.mk 3 (⟨#[101, 120, 46, 99, 111, 109]⟩ : ByteArray)])) ++ ([MPost.mk 3 (⟨#[111, 114, 103]⟩ : ByteArray)])), false, true⟩, some (147, 0)), ((104, 0), ⟨39, 6, List.map recV (j3_4 ++ ([x24, x26, Rec.mk (⟨#[97, 108, 46, 111, 114, 103]⟩ : ByteArray) 5 x1 0 (⟨#[119, 119, 119, 46, 101, 120, 46, 99, 111, 109]⟩ : ByteArray) (⟨#[]⟩ : ByteArray), Rec.mk (⟨#[108, 111, 46, 111, 114, 103]⟩ : ByteArray) 5 x1 0 (⟨#[108, 111, 46, 99, 111, 109]⟩ : ByteArray) (⟨#[]⟩ : ByteArray)])), false, true⟩, some (104, 0)), ((121, 0), ⟨39, 6, List.map recV [x32, x34, x36, x38, x40], false, true⟩, some (121, 0))] [] ⟨⟨rfl, _, rfl, rfl, rfl, rfl, id, rowsCv_one (.cons (.free rfl) (.cons (.free rfl) (.cons (.free rfl) .nil))), rowsZ_one rfl⟩, ⟨rfl, _, rfl, rfl, rfl, rfl, id, rowsCv_one (.cons (.free rfl) (.cons (.free rfl) .nil)), rowsZ_one rfl⟩, ⟨rfl, _, rfl, rfl, rfl, rfl, id, rowsCv_eq rfl (allFree_map recV_free), rowsZ_map recV_len⟩, ⟨rfl, _, rfl, rfl, rfl, rfl, id, rowsCv_eq rfl (allFree_map recV_free), rowsZ_map recV_len⟩, ⟨rfl, _, rfl, rfl, rfl, rfl, id, rowsCv_one (.cons (.free rfl) (.cons (.ref rfl) .nil)), rowsZ_one rfl⟩, ⟨rfl, _, rfl, rfl, rfl, rfl, id, rowsCv_eq rfl (allFree_map mPostV_free), rowsZ_map mPostV_len⟩, ⟨rfl, _, rfl, rfl, rfl, rfl, id, rowsCv_eq rfl (allFree_map recV_free), rowsZ_map recV_len⟩, ⟨rfl, _, rfl, rfl, rfl, rfl, id, rowsCv_eq rfl (allFree_map recV_free), rowsZ_map recV_len⟩, trivial⟩ trivial rfl rfl ?_
       exact ⟨(.ptr rfl), (.ref rfl), (.ref rfl), (.ptr rfl), (.ref rfl), (.ref rfl), trivial⟩
     ·rintro ⟨j4_0, h⟩
      replace h : s_l12Draw_j4 x1 j2_3 j3_0 j3_1 j3_2 j3_3 j3_4 x24 x26 x29 x32 x34 x36 x38 x40 x42 x44 j4_0 = some (r0, r1) := h
      unfold s_l12Draw_j4 at h
      show Tri _ _ _ (inv_s_l12Draw_4 x1 j2_3 j3_0 j3_1 j3_2 j3_3 j3_4 x24 x26 x29 x32 x34 x36 x38 x40 x42 x44 j4_0)
      refine tri_sr ?_
      refine m1 ?_
      refine bnd1_elim h fun x48 q49 h => ?_
      refine s_callNF (kb := [(110, 0)]) (ns := []) (v := .ref (150, 0) 0 x48.length) (D := [(150, 0)]) rfl rfl cl144 (ws_l10Uniq (j3_3 ++ [x29]) x48 q49) rfl (.cons (lendL rfl (.head _) rfl recV_free recV_len) .nil) trivial memNil .nil (fun _ _ => List.not_mem_nil) rfl ⟨(allSc_map recV_sc), trivial⟩ memNil rfl (by simp only [V.mat, V.mat1, V.mat0, matL, matT, List.length_map] <;> rfl) rfl ⟨⟨rfl, rfl, _, rfl, rfl⟩, trivial⟩ (lendL rfl (.head _) rfl recV_free recV_len) rfl rfl rfl ?_
      refine s_build (cells' := [.sc (.string (⟨#[]⟩ : ByteArray)), .lst 6 (List.map recV x48)]) rfl stc26 rfl rfl rfl rfl rfl rfl rfl ?_
      refine m1 ?_
      refine bnd1_elim h fun x50 q51 h => ?_
      refine s_callNF (kb := [(128, 0)]) (ns := []) (v := .ref (153, 0) 0 x50.length) (D := [(153, 0)]) rfl rfl cl144 (ws_l10Uniq (j2_3 ++ [x42, x44]) x50 q51) rfl (.cons (lendL rfl (.head _) rfl recV_free recV_len) .nil) trivial memNil .nil (fun _ _ => List.not_mem_nil) rfl ⟨(allSc_map recV_sc), trivial⟩ memNil rfl (by simp only [V.mat, V.mat1, V.mat0, matL, matT, List.length_map] <;> rfl) rfl ⟨⟨rfl, rfl, _, rfl, rfl⟩, trivial⟩ (lendL rfl (.head _) rfl recV_free recV_len) rfl rfl rfl ?_
      refine s_build (cells' := [.sc (.string (⟨#[99, 111, 109]⟩ : ByteArray)), .lst 6 (List.map recV x50)]) rfl stc26 rfl rfl rfl rfl rfl rfl rfl ?_
      refine m1 ?_
      refine bnd1_elim h fun x52 q53 h => ?_
      refine s_callNF (kb := [(104, 0)]) (ns := []) (v := .ref (156, 0) 0 x52.length) (D := [(156, 0)]) rfl rfl cl144 (ws_l10Uniq (j3_4 ++ ([x24, x26, Rec.mk (⟨#[97, 108, 46, 111, 114, 103]⟩ : ByteArray) 5 x1 0 (⟨#[119, 119, 119, 46, 101, 120, 46, 99, 111, 109]⟩ : ByteArray) (⟨#[]⟩ : ByteArray), Rec.mk (⟨#[108, 111, 46, 111, 114, 103]⟩ : ByteArray) 5 x1 0 (⟨#[108, 111, 46, 99, 111, 109]⟩ : ByteArray) (⟨#[]⟩ : ByteArray)])) x52 q53) rfl (.cons (lendL rfl (.head _) rfl recV_free recV_len) .nil) trivial memNil .nil (fun _ _ => List.not_mem_nil) rfl ⟨(allSc_map recV_sc), trivial⟩ memNil rfl (by simp only [V.mat, V.mat1, V.mat0, matL, matT, List.length_map] <;> rfl) rfl ⟨⟨rfl, rfl, _, rfl, rfl⟩, trivial⟩ (lendL rfl (.head _) rfl recV_free recV_len) rfl rfl rfl ?_
      refine s_build (cells' := [.sc (.string (⟨#[111, 114, 103]⟩ : ByteArray)), .lst 6 (List.map recV x52)]) rfl stc26 rfl rfl rfl rfl rfl rfl rfl ?_
      refine m1 ?_
      refine bnd1_elim h fun x54 q55 h => ?_
      refine s_callNF (kb := [(121, 0)]) (ns := []) (v := .ref (159, 0) 0 x54.length) (D := [(159, 0)]) rfl rfl cl144 (ws_l10Uniq [x32, x34, x36, x38, x40] x54 q55) rfl (.cons (lendL rfl (.head _) rfl recV_free recV_len) .nil) trivial memNil .nil (fun _ _ => List.not_mem_nil) rfl ⟨(allSc_map recV_sc), trivial⟩ memNil rfl (by simp only [V.mat, V.mat1, V.mat0, matL, matT, List.length_map] <;> rfl) rfl ⟨⟨rfl, rfl, _, rfl, rfl⟩, trivial⟩ (lendL rfl (.head _) rfl recV_free recV_len) rfl rfl rfl ?_
      refine s_build (cells' := [.sc (.string (⟨#[101, 120, 46, 99, 111, 109]⟩ : ByteArray)), .lst 6 (List.map recV x54)]) rfl stc26 rfl rfl rfl rfl rfl rfl rfl ?_
      refine s_buildSlice (rows' := List.map mZoneV [MZone.mk (⟨#[]⟩ : ByteArray) x48, MZone.mk (⟨#[99, 111, 109]⟩ : ByteArray) x50, MZone.mk (⟨#[111, 114, 103]⟩ : ByteArray) x52, MZone.mk (⟨#[101, 120, 46, 99, 111, 109]⟩ : ByteArray) x54]) rfl rfl rfl sl42 zc26 rfl rfl rfl rfl rfl rfl rfl rfl rfl ?_
      refine s_fieldAddr rfl rfl fd45_0 rfl rfl rfl rfl ?_
      refine s_store (rows' := [[.ref (161, 0) 0 4, .ref (2006, 2) 0 j4_0.length]]) rfl rfl rfl rfl ty42 rfl rfl rfl rfl rfl rfl ?_
      refine rt_nil ?_
      refine tri_sr ?_
      refine s_loadR rfl rfl rfl rfl ty45 rfl rfl rfl ?_
      refine s_storeB rfl rfl rfl ty45 rfl rfl rfl rfl rfl ?_
      refine rt_nil ?_
      refine tri_ret ?_
      have e0 := (some2 h).1; have e1 := (some2 h).2; subst e0; subst e1
      exact endY (v' := .agg [.ref (2000, 0) 0 (([MZone.mk (⟨#[]⟩ : ByteArray) x48, MZone.mk (⟨#[99, 111, 109]⟩ : ByteArray) x50, MZone.mk (⟨#[111, 114, 103]⟩ : ByteArray) x52, MZone.mk (⟨#[101, 120, 46, 99, 111, 109]⟩ : ByteArray) x54]).length), .ref (2000, 1) 0 j4_0.length]) [((2000, 0), ⟨26, 2, List.map mZoneV ([MZone.mk (⟨#[]⟩ : ByteArray) x48, MZone.mk (⟨#[99, 111, 109]⟩ : ByteArray) x50, MZone.mk (⟨#[111, 114, 103]⟩ : ByteArray) x52, MZone.mk (⟨#[101, 120, 46, 99, 111, 109]⟩ : ByteArray) x54]), false, true⟩, some (161, 0)), ((2000, 1), ⟨146, 2, List.map mPostV j4_0, false, true⟩, some (2006, 2)), ((1000, 0), ⟨136, 3, [[.lst 1 (List.map byteV j3_0), .sc (.int .i64 j3_1), .sc (.int .i64 j3_2)]], false, false⟩, some (1000, 0))] [] (rvC (resCell rfl rfl ty45) rvN) ⟨⟨rfl, _, rfl, rfl, rfl, rfl, id, rowsCv_eq rfl (allFree_map mZoneV_free), rowsZ_map mZoneV_len⟩, ⟨rfl, _, rfl, rfl, rfl, rfl, id, rowsCv_eq rfl (allFree_map mPostV_free), rowsZ_map mPostV_len⟩, ⟨rfl, _, rfl, rfl, rfl, rfl, id, rowsCv_one (.cons (.free rfl) (.cons (.free rfl) (.cons (.free rfl) .nil))), rowsZ_one rfl⟩, trivial⟩ trivial rfl rfl (by kernel_rfl) (by simp only [V.mat, V.mat1, V.mat0, matL, matT, List.length_map] <;> rfl) (CvL.agg (.cons (.ref rfl) (.cons (.ref rfl) .nil)))

/- spec.l12Name -/

set_option maxRecDepth 4000 in
set_option maxHeartbeats 800000 in
theorem ws_l12Name (p0 : Cur) (r0 : ByteArray) (r1 : Cur) (h : s_l12Name p0 = some (r0, r1)) : Runs Tryd.prog 153 [.ptr (1000, 0) 0 0] [⟨136, 3, [[.lst 1 (List.map byteV p0.b), .sc (.int .i64 p0.i), .sc (.int .i64 p0.h)]], false, false⟩] (.sc (.string r0)) [⟨136, 3, [[.lst 1 (List.map byteV r1.b), .sc (.int .i64 r1.i), .sc (.int .i64 r1.h)]], false, false⟩] := by
 unfold s_l12Name at h
 refine runsR [.tmp 2] Tryd.func153 rfl rfl rfl rfl ?_
 rw [Tryd.ntmps153]
 refine tri_sr ?_
 refine s_mv (.inr rfl) (v := .sc (.string (⟨#[]⟩ : ByteArray))) rfl rfl rfl rfl ?_
 refine rt_nil ?_
 refine tri_sr ?_
 refine m1 ?_
 refine s_buildSlice (rows' := List.map strV [(⟨#[]⟩ : ByteArray), (⟨#[99, 111, 109]⟩ : ByteArray), (⟨#[110, 115, 46, 99, 111, 109]⟩ : ByteArray), (⟨#[101, 120, 46, 99, 111, 109]⟩ : ByteArray), (⟨#[119, 119, 119, 46, 101, 120, 46, 99, 111, 109]⟩ : ByteArray), (⟨#[110, 115, 46, 101, 120, 46, 99, 111, 109]⟩ : ByteArray), (⟨#[111, 114, 103]⟩ : ByteArray), (⟨#[110, 115, 46, 111, 114, 103]⟩ : ByteArray), (⟨#[97, 46, 111, 114, 103]⟩ : ByteArray), (⟨#[119, 119, 119, 46, 97, 46, 111, 114, 103]⟩ : ByteArray), (⟨#[97, 108, 46, 99, 111, 109]⟩ : ByteArray), (⟨#[97, 108, 46, 101, 120, 46, 99, 111, 109]⟩ : ByteArray), (⟨#[97, 108, 46, 111, 114, 103]⟩ : ByteArray), (⟨#[108, 111, 46, 99, 111, 109]⟩ : ByteArray), (⟨#[108, 111, 46, 111, 114, 103]⟩ : ByteArray), (⟨#[116, 46, 99, 111, 109]⟩ : ByteArray), (⟨#[110, 111, 46, 99, 111, 109]⟩ : ByteArray), (⟨#[110, 111, 46, 101, 120, 46, 99, 111, 109]⟩ : ByteArray), (⟨#[98, 46, 116, 46, 99, 111, 109]⟩ : ByteArray)]) rfl rfl rfl sl33 zc9 rfl rfl rfl rfl rfl rfl rfl rfl rfl ?_
 refine bnd2_elim h fun x1 x2 q3 h => ?_
 refine s_callZ (kb := [(4, 0)]) (ns := [(1000, 0)]) (v := .sc (.string x1)) rfl rfl cl118 (ws_l1Str p0 ([(⟨#[]⟩ : ByteArray), (⟨#[99, 111, 109]⟩ : ByteArray), (⟨#[110, 115, 46, 99, 111, 109]⟩ : ByteArray), (⟨#[101, 120, 46, 99, 111, 109]⟩ : ByteArray), (⟨#[119, 119, 119, 46, 101, 120, 46, 99, 111, 109]⟩ : ByteArray), (⟨#[110, 115, 46, 101, 120, 46, 99, 111, 109]⟩ : ByteArray), (⟨#[111, 114, 103]⟩ : ByteArray), (⟨#[110, 115, 46, 111, 114, 103]⟩ : ByteArray), (⟨#[97, 46, 111, 114, 103]⟩ : ByteArray), (⟨#[119, 119, 119, 46, 97, 46, 111, 114, 103]⟩ : ByteArray), (⟨#[97, 108, 46, 99, 111, 109]⟩ : ByteArray), (⟨#[97, 108, 46, 101, 120, 46, 99, 111, 109]⟩ : ByteArray), (⟨#[97, 108, 46, 111, 114, 103]⟩ : ByteArray), (⟨#[108, 111, 46, 99, 111, 109]⟩ : ByteArray), (⟨#[108, 111, 46, 111, 114, 103]⟩ : ByteArray), (⟨#[116, 46, 99, 111, 109]⟩ : ByteArray), (⟨#[110, 111, 46, 99, 111, 109]⟩ : ByteArray), (⟨#[110, 111, 46, 101, 120, 46, 99, 111, 109]⟩ : ByteArray), (⟨#[98, 46, 116, 46, 99, 111, 109]⟩ : ByteArray)]) x1 x2 q3) rfl (.cons (.ptrOwn rfl) (.cons (lendL rfl (.head _) rfl strV_free strV_len) .nil)) ⟨⟨_, rfl, rfl⟩, trivial⟩ (memCons (allFree_one rfl) memNil) (List.nodup_cons.2 ⟨List.not_mem_nil, .nil⟩) (by decide) ⟨⟨_, rfl, rfl⟩, trivial⟩ rfl trivial (memCons (allFree_one rfl) memNil) rfl rfl rfl rfl rfl rfl ?_
 refine m2 ?_
 refine rt_nil ?_
 refine tri_ret ?_
 have e0 := (some2 h).1; have e1 := (some2 h).2; subst e0; subst e1
 exact endY [((1000, 0), ⟨136, 3, [[.lst 1 (List.map byteV x2.b), .sc (.int .i64 x2.i), .sc (.int .i64 x2.h)]], false, false⟩, some (1000, 0))] [] (rvC (resTmp rfl) rvN) ⟨⟨rfl, _, rfl, rfl, rfl, rfl, id, rowsCv_one (.cons (.free rfl) (.cons (.free rfl) (.cons (.free rfl) .nil))), rowsZ_one rfl⟩, trivial⟩ trivial rfl rfl (by kernel_rfl) rfl (.free rfl)

/- spec.l12Quest -/

set_option maxRecDepth 4000 in
set_option maxHeartbeats 800000 in
theorem ws_l12Quest (p0 : Cur) (r0 : Quest) (r1 : Cur) (h : s_l12Quest p0 = some (r0, r1)) : Runs Tryd.prog 102 [.ptr (1000, 0) 0 0] [⟨136, 3, [[.lst 1 (List.map byteV p0.b), .sc (.int .i64 p0.i), .sc (.int .i64 p0.h)]], false, false⟩] (.agg (questV r0)) [⟨136, 3, [[.lst 1 (List.map byteV r1.b), .sc (.int .i64 r1.i), .sc (.int .i64 r1.h)]], false, false⟩] := by
 unfold s_l12Quest at h
 refine runsR [.cell 2 28] Tryd.func102 rfl rfl rfl rfl ?_
 rw [Tryd.ntmps102]
 refine tri_sr ?_
 refine s_alloc rfl rfl rfl zc28 rfl rfl rfl rfl rfl ?_
 refine rt_nil ?_
 refine tri_sr ?_
 refine m1 ?_
 refine bnd2_elim h fun x1 x2 q3 h => ?_
 refine s_callZ (kb := []) (ns := [(1000, 0)]) (v := .sc (.string x1)) rfl rfl cl153 (ws_l12Name p0 x1 x2 q3) rfl (.cons (.ptrOwn rfl) .nil) ⟨⟨_, rfl, rfl⟩, trivial⟩ (memCons (allFree_one rfl) memNil) (List.nodup_cons.2 ⟨List.not_mem_nil, .nil⟩) memNil trivial rfl trivial (memCons (allFree_one rfl) memNil) rfl rfl rfl rfl rfl rfl ?_
 refine m1 ?_
 refine s_buildSlice (rows' := List.map intV [1, 1, 1, 1, 2, 5, 6, 16]) rfl rfl rfl sl76 zc3 rfl rfl rfl rfl rfl rfl rfl rfl rfl ?_
 refine bnd2_elim h fun x4 x5 q6 h => ?_
 refine s_callZ (kb := [(6, 0)]) (ns := [(1000, 0)]) (v := .sc (.int .i64 x4)) rfl rfl cl140 (ws_l1Int x2 [1, 1, 1, 1, 2, 5, 6, 16] x4 x5 q6) rfl (.cons (.ptrOwn rfl) (.cons (lendL rfl (.head _) rfl intV_free intV_len) .nil)) ⟨⟨_, rfl, rfl⟩, trivial⟩ (memCons (allFree_one rfl) memNil) (List.nodup_cons.2 ⟨List.not_mem_nil, .nil⟩) (by decide) ⟨⟨_, rfl, rfl⟩, trivial⟩ rfl trivial (memCons (allFree_one rfl) memNil) rfl rfl rfl rfl rfl rfl ?_
 refine s_build (cells' := [.sc (.string x1), .sc (.int .i64 x4)]) rfl stc28 rfl rfl rfl rfl rfl rfl rfl ?_
 refine s_storeB rfl rfl rfl ty28 rfl rfl rfl rfl rfl ?_
 refine rt_nil ?_
 refine tri_ret ?_
 have e0 := (some2 h).1; have e1 := (some2 h).2; subst e0; subst e1
 exact endY [((1000, 0), ⟨136, 3, [[.lst 1 (List.map byteV x5.b), .sc (.int .i64 x5.i), .sc (.int .i64 x5.h)]], false, false⟩, some (1000, 0))] [] (rvC (resCell rfl rfl ty28) rvN) ⟨⟨rfl, _, rfl, rfl, rfl, rfl, id, rowsCv_one (.cons (.free rfl) (.cons (.free rfl) (.cons (.free rfl) .nil))), rowsZ_one rfl⟩, trivial⟩ trivial rfl rfl (by kernel_rfl) rfl (cvAgg rfl)

/- spec.DrawForest -/

set_option maxRecDepth 4000 in
set_option maxHeartbeats 800000 in
theorem ws_DrawForest (p0 : List Int) (r0 : MForest) (r1 : Quest) (h : s_DrawForest p0 = some (r0, r1)) : Runs Tryd.prog 22 [.lst 1 (List.map byteV p0)] [] (.tup [.agg [.own 26 2 (List.map mZoneV r0.zones), .own 146 2 (List.map mPostV r0.posts)], .agg (questV r1)]) [] := by
 unfold s_DrawForest at h
 refine runsR [.cell 2 45, .cell 3 28] Tryd.func22 rfl rfl rfl rfl ?_
 rw [Tryd.ntmps22]
 refine tri_sr ?_
 refine s_alloc rfl rfl rfl zc45 rfl rfl rfl rfl rfl ?_
 refine s_alloc rfl rfl rfl zc28 rfl rfl rfl rfl rfl ?_
 refine rt_nil ?_
 refine tri_sr ?_
 refine m1 ?_
 refine bnd1_elim h fun x1 q2 h => ?_
 refine s_callZ (kb := []) (ns := []) (v := .ptr (7, 0) 0 0) rfl rfl cl88 (ws_l1New p0 x1 q2) rfl (.cons (.free rfl) .nil) trivial memNil .nil memNil trivial rfl ⟨(allFree_one rfl), trivial⟩ memNil rfl (by simp only [V.mat, V.mat1, V.mat0, matL, matT, List.length_map] <;> rfl) rfl rfl rfl rfl ?_
 refine m2 ?_
 refine rt_nil ?_
 refine tri_sr ?_
 refine m1 ?_
 refine bnd2_elim h fun x3 x4 q5 h => ?_
 refine s_callZ (kb := []) (ns := [(7, 0)]) (v := .agg [.ref (9, 0) 0 x3.zones.length, .ref (9, 1) 0 x3.posts.length]) rfl rfl cl101 (ws_l12Draw x1 x3 x4 q5) rfl (.cons (.ptrOwn rfl) .nil) ⟨⟨_, rfl, rfl⟩, trivial⟩ (memCons (allFree_one rfl) memNil) (List.nodup_cons.2 ⟨List.not_mem_nil, .nil⟩) memNil trivial rfl ⟨(allFree_map mZoneV_free), ⟨(allFree_map mPostV_free), trivial⟩⟩ (memCons (allFree_one rfl) memNil) rfl (by simp only [V.mat, V.mat1, V.mat0, matL, matT, List.length_map] <;> rfl) rfl rfl rfl rfl ?_
 refine s_alloc rfl rfl rfl zc45 rfl rfl rfl rfl rfl ?_
 refine s_storeB rfl rfl rfl ty45 rfl rfl rfl rfl rfl ?_
 refine rt_nil ?_
 refine tri_seq ?_
 refine tri_draw mixed ?_
 refine s_loadR rfl rfl rfl rfl ty45 rfl rfl rfl ?_
 refine m1 ?_
 refine bnd2_elim h fun x6 x7 q8 h => ?_
 refine s_callZ (kb := []) (ns := [(7, 0)]) (v := .agg (questV x6)) rfl rfl cl102 (ws_l12Quest x4 x6 x7 q8) rfl (.cons (.ptrOwn rfl) .nil) ⟨⟨_, rfl, rfl⟩, trivial⟩ (memCons (allFree_one rfl) memNil) (List.nodup_cons.2 ⟨List.not_mem_nil, .nil⟩) memNil trivial rfl trivial (memCons (allFree_one rfl) memNil) rfl rfl rfl rfl rfl rfl ?_
 refine s_storeB rfl rfl rfl ty45 rfl rfl rfl rfl rfl ?_
 refine s_storeB rfl rfl rfl ty28 rfl rfl rfl rfl rfl ?_
 refine rt_nil ⟨by kernel_rfl, ?_⟩
 refine tri_ret ?_
 have e0 := (some2 h).1; have e1 := (some2 h).2; subst e0; subst e1
 exact endY (v' := .tup [.agg [.ref (2000, 100) 0 x3.zones.length, .ref (2000, 101) 0 x3.posts.length], .agg (questV x6)]) [((2000, 100), ⟨26, 2, List.map mZoneV x3.zones, false, true⟩, some (9, 0)), ((2000, 101), ⟨146, 2, List.map mPostV x3.posts, false, true⟩, some (9, 1))] [] (rvC (resCell rfl rfl ty45) (rvC (resCell rfl rfl ty28) rvN)) ⟨⟨rfl, _, rfl, rfl, rfl, rfl, id, rowsCv_eq rfl (allFree_map mZoneV_free), rowsZ_map mZoneV_len⟩, ⟨rfl, _, rfl, rfl, rfl, rfl, id, rowsCv_eq rfl (allFree_map mPostV_free), rowsZ_map mPostV_len⟩, trivial⟩ trivial rfl rfl (by kernel_rfl) (by simp only [V.mat, V.mat1, V.mat0, matL, matT, List.length_map] <;> rfl) (CvL.tup (.cons (CvL.agg (.cons (.ref rfl) (.cons (.ref rfl) .nil))) (.cons (cvAgg rfl) .nil)))

/- stringslite.IndexByte -/

set_option maxRecDepth 4000 in
set_option maxHeartbeats 800000 in
theorem winternal_stringslite_IndexByte (p0 : ByteArray) (p1 : Int) (r0 : Int) (h : internal_stringslite_IndexByte p0 p1 = some r0) : Runs Tryd.prog 226 [.sc (.string p0), .sc (.int .u8 p1)] [] (.sc (.int .i64 r0)) [] := by
 unfold internal_stringslite_IndexByte at h
 refine runsR [.tmp 4] Tryd.func226 rfl rfl rfl rfl ?_
 rw [Tryd.ntmps226]
 refine tri_sr ?_
 refine s_mv (.inr rfl) (v := .sc (.int .i64 0)) rfl rfl rfl rfl ?_
 refine rt_nil ?_
 refine tri_sr ?_
 refine m1 ?_
 refine m1 ?_
 refine s_idxByteString rfl rfl rfl Tryd.func230 (by kernel_rfl) (by kernel_rfl) (by kernel_rfl) (by kernel_rfl) rfl rfl rfl ?_
 refine m2 ?_
 refine rt_nil ?_
 refine tri_ret ?_
 have e0 := (some1 h); subst e0
 exact endY [] [] (rvC (resTmp rfl) rvN) trivial trivial rfl rfl rfl rfl (.free rfl)

/- stringslite.Index -/
def inv_internal_stringslite_Index_0 (p0 : ByteArray) (p1 : ByteArray) (j0_0 : Bool) : St := mkT 143 [(0, .sc (.string p0)), (1, .sc (.string p1)), (5, .sc (.int .i64 (p1.size : Int))), (16, .sc (.bool j0_0))] []
set_option maxRecDepth 4000 in
set_option maxHeartbeats 800000 in
theorem winternal_stringslite_Index (p0 : ByteArray) (p1 : ByteArray) (r0 : Int) (h : internal_stringslite_Index p0 p1 = some r0) : Runs Tryd.prog 221 [.sc (.string p0), .sc (.string p1)] [] (.sc (.int .i64 r0)) [] := by
 unfold internal_stringslite_Index at h
 refine runsR [.tmp 4] Tryd.func221 rfl rfl rfl rfl ?_
 rw [Tryd.ntmps221]
 refine tri_sr ?_
 refine s_mv (.inr rfl) (v := .sc (.int .i64 0)) rfl rfl rfl rfl ?_
 refine rt_nil ?_
 refine tri_sr ?_
 refine m1 ?_
 refine s_of (st_lenS rfl rfl iss9) rfl rfl rfl rfl ?_
 refine m2 ?_
 refine rt_nil ?_
 refine tri_seq ?_
 refine tri_block ?_
 refine tri_cutI (ι := { p : Bool // internal_stringslite_Index_j0 p0 p1 p = some r0 }) (fun p => inv_internal_stringslite_Index_0 p0 p1 p.1) ?_ ?_
 ·skip
  refine tri_region ?_
  refine m1 ?_
  refine s_of (st_eqI rfl rfl rfl) rfl rfl rfl rfl ?_
  refine m1 ?_
  refine s_split (t := 19) rfl (fun b1 => ?_) (fun b1 => ?_)
  ·replace h := cond_t h b1
   refine s_skip rfl rfl rfl ?_
   refine s_skip rfl rfl rfl ?_
   refine s_skip rfl rfl rfl ?_
   refine s_pickT rfl rfl (v := .sc (.bool true)) rfl rfl rfl rfl ?_
   refine m2 ?_
   refine rt_nil ?_
   refine Exists.intro ⟨true, h⟩ ?_
   refine entX [] [] trivial trivial rfl rfl ?_
   exact ⟨(.free rfl), (.free rfl), (.free rfl), (.free rfl), trivial⟩
  ·replace h := cond_f h b1
   refine m1 ?_
   refine m1 ?_
   refine s_of (st_eqS rfl rfl rfl) rfl rfl rfl rfl ?_
   refine s_pickF rfl rfl (by conv => lhs; whnf) rfl rfl rfl ?_
   refine m2 ?_
   refine rt_nil ?_
   refine Exists.intro ⟨decide (p1 = p0), h⟩ ?_
   refine entX [] [] trivial trivial rfl rfl ?_
   exact ⟨(.free rfl), (.free rfl), (.free rfl), (.free rfl), trivial⟩
 ·rintro ⟨j0_0, h⟩
  replace h : internal_stringslite_Index_j0 p0 p1 j0_0 = some r0 := h
  unfold internal_stringslite_Index_j0 at h
  show Tri _ _ _ (inv_internal_stringslite_Index_0 p0 p1 j0_0)
  refine tri_cond rfl (fun c1 => ?_) (fun c1 => ?_)
  ·replace h := cond_t h c1
   refine tri_sr ?_
   refine s_mv (.inr rfl) (v := .sc (.int .i64 0)) rfl rfl rfl rfl ?_
   refine rt_nil ?_
   refine tri_ret ?_
   have e0 := (some1 h); subst e0
   exact endY [] [] (rvC (resTmp rfl) rvN) trivial trivial rfl rfl rfl rfl (.free rfl)
  ·replace h := cond_f h c1
   refine tri_sr ?_
   refine m1 ?_
   refine s_of (st_eqI rfl rfl rfl) rfl rfl rfl rfl ?_
   refine m2 ?_
   refine rt_nil ?_
   refine tri_cond rfl (fun c2 => ?_) (fun c2 => ?_)
   ·replace h := cond_t h c2
    refine tri_sr ?_
    refine m1 ?_
    refine m1 ?_
    refine bnd1_elim h fun x3 q4 h => ?_
    refine s_idxS rfl rfl rfl iss9 q4 rfl rfl rfl ?_
    refine bnd1_elim h fun x5 q6 h => ?_
    refine s_callN (kb := []) (ns := []) (v := .sc (.int .i64 x5)) rfl rfl cl226 (winternal_stringslite_IndexByte p0 x3 x5 q6) rfl (.cons (.free rfl) (.cons (.free rfl) .nil)) trivial memNil .nil memNil rfl trivial memNil rfl rfl rfl rfl rfl rfl ?_
    refine m2 ?_
    refine rt_nil ?_
    refine tri_ret ?_
    have e0 := (some1 h); subst e0
    exact endY [] [] (rvC (resTmp rfl) rvN) trivial trivial rfl rfl rfl rfl (.free rfl)
   ·replace h := cond_f h c2
    refine tri_sr ?_
    refine m1 ?_
    refine m1 ?_
    refine s_of (st_lenS rfl rfl iss9) rfl rfl rfl rfl ?_
    refine s_of (st_geq rfl rfl rfl) rfl rfl rfl rfl ?_
    refine m2 ?_
    refine rt_nil ?_
    refine tri_cond rfl (fun c7 => ?_) (fun c7 => ?_)
    ·replace h := cond_t h c7
     refine tri_sr ?_
     refine s_mv (.inr rfl) (v := .sc (.int .i64 (-1))) rfl rfl rfl rfl ?_
     refine rt_nil ?_
     refine tri_ret ?_
     have e0 := (some1 h); subst e0
     exact endY [] [] (rvC (resTmp rfl) rvN) trivial trivial rfl rfl rfl rfl (.free rfl)
    ·replace h := cond_f h c7
     refine tri_sr ?_
     refine m1 ?_
     cases h

/- strings.Index -/

set_option maxRecDepth 4000 in
set_option maxHeartbeats 800000 in
theorem wstrings_Index (p0 : ByteArray) (p1 : ByteArray) (r0 : Int) (h : strings_Index p0 p1 = some r0) : Runs Tryd.prog 209 [.sc (.string p0), .sc (.string p1)] [] (.sc (.int .i64 r0)) [] := by
 unfold strings_Index at h
 refine runsR [.tmp 4] Tryd.func209 rfl rfl rfl rfl ?_
 rw [Tryd.ntmps209]
 refine tri_sr ?_
 refine s_mv (.inr rfl) (v := .sc (.int .i64 0)) rfl rfl rfl rfl ?_
 refine rt_nil ?_
 refine tri_sr ?_
 refine m1 ?_
 refine m1 ?_
 refine bnd1_elim h fun x1 q2 h => ?_
 refine s_callN (kb := []) (ns := []) (v := .sc (.int .i64 x1)) rfl rfl cl221 (winternal_stringslite_Index p0 p1 x1 q2) rfl (.cons (.free rfl) (.cons (.free rfl) .nil)) trivial memNil .nil memNil rfl trivial memNil rfl rfl rfl rfl rfl rfl ?_
 refine m2 ?_
 refine rt_nil ?_
 refine tri_ret ?_
 have e0 := (some1 h); subst e0
 exact endY [] [] (rvC (resTmp rfl) rvN) trivial trivial rfl rfl rfl rfl (.free rfl)

/- strings.Count -/
def inv_strings_Count_0 (p1 : ByteArray) (v0_0 : ByteArray) (v0_1 : Int) : St := mkT 34 [(0, .sc (.string v0_0)), (1, .sc (.string p1)), (5, .sc (.int .i64 v0_1))] []
set_option maxRecDepth 4000 in
set_option maxHeartbeats 800000 in
theorem wstrings_Count (p0 : ByteArray) (p1 : ByteArray) (r0 : Int) (h : strings_Count p0 p1 = some r0) : Runs Tryd.prog 208 [.sc (.string p0), .sc (.string p1)] [] (.sc (.int .i64 r0)) [] := by
 unfold strings_Count at h
 refine runsR [.tmp 4] Tryd.func208 rfl rfl rfl rfl ?_
 rw [Tryd.ntmps208]
 refine tri_sr ?_
 refine s_mv (.inr rfl) (v := .sc (.int .i64 0)) rfl rfl rfl rfl ?_
 refine rt_nil ?_
 refine tri_seq ?_
 refine tri_sr ?_
 refine m1 ?_
 refine s_of (st_lenS rfl rfl iss9) rfl rfl rfl rfl ?_
 refine s_of (st_eqI rfl rfl rfl) rfl rfl rfl rfl ?_
 refine rt_nil ?_
 refine tri_cond rfl (fun c1 => ?_) (fun c1 => ?_)
 ·replace h := cond_t h c1
  refine tri_sr ?_
  refine m1 ?_
  cases h
 ·replace h := cond_f h c1
  refine tri_skip ?_
  refine tri_seq ?_
  refine tri_sr ?_
  refine m1 ?_
  refine s_of (st_lenS rfl rfl iss9) rfl rfl rfl rfl ?_
  refine s_of (st_eqI rfl rfl rfl) rfl rfl rfl rfl ?_
  refine rt_nil ?_
  refine tri_cond rfl (fun c2 => ?_) (fun c2 => ?_)
  ·replace h := cond_t h c2
   refine tri_sr ?_
   refine m1 ?_
   refine m1 ?_
   refine bnd1_elim h fun x3 q4 h => ?_
   refine s_idxS rfl rfl rfl iss9 q4 rfl rfl rfl ?_
   refine s_countString rfl rfl rfl Tryd.func220 (by kernel_rfl) (by kernel_rfl) (by kernel_rfl) (by kernel_rfl) rfl rfl rfl ?_
   refine m2 ?_
   refine rt_nil ?_
   refine tri_ret ?_
   have e0 := (some1 h); subst e0
   exact endY [] [] (rvC (resTmp rfl) rvN) trivial trivial rfl rfl rfl rfl (.free rfl)
  ·replace h := cond_f h c2
   refine tri_skip ?_
   refine tri_sr ?_
   refine s_mv (.inr rfl) (v := .sc (.int .i64 0)) rfl rfl rfl rfl ?_
   refine rt_nil ?_
   refine tri_block ?_
   refine tri_loop (ι := { p : Nat × ByteArray × Int // strings_Count_l0 p1 p.1 p.2.1 p.2.2 = some r0 }) (fun p => inv_strings_Count_0 p1 p.1.2.1 p.1.2.2) (fun p => p.1.1) ⟨(fuel0, p0, 0), h⟩ ?_ ?_
   ·skip
    refine entX [] [] trivial trivial rfl rfl ?_
    exact ⟨(.free rfl), (.free rfl), (.free rfl), trivial⟩
   ·rintro ⟨⟨f0, v0_0, v0_1⟩, h⟩
    replace h : strings_Count_l0 p1 f0 v0_0 v0_1 = some r0 := h
    cases f0 with
    | zero => cases h
    | succ f0 =>
    rw [strings_Count_l0] at h
    show Tri _ _ _ (inv_strings_Count_0 p1 v0_0 v0_1)
    refine tri_block ?_
    refine tri_sr ?_
    refine m1 ?_
    refine m1 ?_
    refine bnd1_elim h fun x5 q6 h => ?_
    refine s_callN (kb := []) (ns := []) (v := .sc (.int .i64 x5)) rfl rfl cl209 (wstrings_Index v0_0 p1 x5 q6) rfl (.cons (.free rfl) (.cons (.free rfl) .nil)) trivial memNil .nil memNil rfl trivial memNil rfl rfl rfl rfl rfl rfl ?_
    refine m2 ?_
    refine rt_nil ?_
    refine tri_seq ?_
    refine tri_sr ?_
    refine m1 ?_
    refine s_of (st_eqI rfl rfl rfl) rfl rfl rfl rfl ?_
    refine rt_nil ?_
    refine tri_cond rfl (fun c7 => ?_) (fun c7 => ?_)
    ·replace h := cond_t h c7
     refine tri_sr ?_
     refine m1 ?_
     refine m2 ?_
     refine rt_nil ?_
     refine tri_ret ?_
     have e0 := (some1 h); subst e0
     exact endY [] [] (rvC (resTmp rfl) rvN) trivial trivial rfl rfl rfl rfl (.free rfl)
    ·replace h := cond_f h c7
     refine tri_skip ?_
     refine tri_sr ?_
     refine m1 ?_
     refine grd_elim h fun g8 h => ?_
     refine s_addI rfl rfl rfl rfl g8 rfl rfl rfl ?_
     refine m2 ?_
     refine rt_nil ?_
     refine tri_region ?_
     refine m1 ?_
     refine m1 ?_
     refine m1 ?_
     refine s_of (st_lenS rfl rfl iss9) rfl rfl rfl rfl ?_
     refine grd_elim h fun g9 h => ?_
     refine s_addI rfl rfl rfl rfl g9 rfl rfl rfl ?_
     refine grd_elim h fun g10 h => ?_
     refine s_sliceS (a := x5 + (p1.size : Int)) (b := (v0_0.size : Int)) rfl rfl iss9 ⟨_, rfl⟩ rfl g10 rfl rfl rfl ?_
     refine m2 ?_
     refine rt_nil ?_
     refine Exists.intro ⟨(f0, v0_0.extract (x5 + (p1.size : Int)).toNat (v0_0.size : Int).toNat, v0_1 + 1), h⟩ (And.intro (Nat.lt_succ_self _) ?_)
     refine entX [] [] trivial trivial rfl rfl ?_
     exact ⟨(.free rfl), (.free rfl), (.free rfl), trivial⟩

/- strings.genSplit -/
def inv_strings_genSplit_2 (p0 : ByteArray) (p1 : ByteArray) (p2 : Int) (j0_0 : Int) (v2_0 : ByteArray) (v2_1 : List ByteArray) (v2_2 : Int) : St := mkT 66 [(0, .sc (.string v2_0)), (1, .sc (.string p1)), (2, .sc (.int .i64 p2)), (3, .sc (.int .i64 ((if (p0.size : Int) + 1 < j0_0 then (p0.size : Int) + 1 else j0_0) - 1))), (9, .ref (31, 0) 0 v2_1.length), (10, .sc (.int .i64 v2_2))] [((31, 0), some ⟨9, 1, List.map strV v2_1, false, true⟩)]
def inv_strings_genSplit_1  (j1_0 : ByteArray) (j1_1 : List ByteArray) (j1_2 : Int) : St := mkT 66 [(0, .sc (.string j1_0)), (9, .ref (31, 0) 0 j1_1.length), (10, .sc (.int .i64 j1_2))] [((31, 0), some ⟨9, 1, List.map strV j1_1, false, true⟩)]
def inv_strings_genSplit_0 (p0 : ByteArray) (p1 : ByteArray) (p2 : Int) (j0_0 : Int) : St := mkT 66 [(0, .sc (.string p0)), (1, .sc (.string p1)), (2, .sc (.int .i64 p2)), (3, .sc (.int .i64 j0_0))] []
set_option maxRecDepth 4000 in
set_option maxHeartbeats 800000 in
theorem wstrings_genSplit (p0 : ByteArray) (p1 : ByteArray) (p2 : Int) (p3 : Int) (r0 : List ByteArray) (h : strings_genSplit p0 p1 p2 p3 = some r0) : Runs Tryd.prog 186 [.sc (.string p0), .sc (.string p1), .sc (.int .i64 p2), .sc (.int .i64 p3)] [] (.own 9 1 (List.map strV r0)) [] := by
 unfold strings_genSplit at h
 refine runsR [.tmp 8] Tryd.func186 rfl rfl rfl rfl ?_
 rw [Tryd.ntmps186]
 refine tri_sr ?_
 refine s_mv (.inr rfl) (v := .nils) rfl rfl rfl rfl ?_
 refine rt_nil ?_
 refine tri_seq ?_
 refine tri_sr ?_
 refine m1 ?_
 refine s_of (st_eqI rfl rfl rfl) rfl rfl rfl rfl ?_
 refine rt_nil ?_
 refine tri_cond rfl (fun c1 => ?_) (fun c1 => ?_)
 ·replace h := cond_t h c1
  refine tri_sr ?_
  refine s_mv (.inr rfl) (v := .nils) rfl rfl rfl rfl ?_
  refine rt_nil ?_
  refine tri_ret ?_
  have e0 := (some1 h); subst e0
  exact endY (v' := .ref (2000, 0) 0 (([] : List ByteArray).length)) [((2000, 0), ⟨9, 1, List.map strV ([] : List ByteArray), false, true⟩, none)] [] (rvC (resTmp rfl) rvN) ⟨rfl, trivial⟩ trivial rfl rfl (by kernel_rfl) (by simp only [V.mat, V.mat1, V.mat0, matL, matT, List.length_map] <;> rfl) (.nilRef rfl)
 ·replace h := cond_f h c1
  refine tri_skip ?_
  refine tri_seq ?_
  refine tri_sr ?_
  refine m1 ?_
  refine s_of (st_eqS rfl rfl rfl) rfl rfl rfl rfl ?_
  refine rt_nil ?_
  refine tri_cond rfl (fun c2 => ?_) (fun c2 => ?_)
  ·replace h := cond_t h c2
   refine tri_sr ?_
   refine m1 ?_
   refine m1 ?_
   cases h
  ·replace h := cond_f h c2
   refine tri_skip ?_
   refine tri_cutI (ι := { p : Int // strings_genSplit_j0 p0 p1 p2 p = some r0 }) (fun p => inv_strings_genSplit_0 p0 p1 p2 p.1) ?_ ?_
   ·skip
    refine tri_sr ?_
    refine m1 ?_
    refine s_of (st_lss rfl rfl rfl) rfl rfl rfl rfl ?_
    refine rt_nil ?_
    refine tri_cond rfl (fun c3 => ?_) (fun c3 => ?_)
    ·replace h := cond_t h c3
     refine tri_region ?_
     refine m1 ?_
     refine m1 ?_
     refine bnd1_elim h fun x4 q5 h => ?_
     refine s_callN (kb := []) (ns := []) (v := .sc (.int .i64 x4)) rfl rfl cl208 (wstrings_Count p0 p1 x4 q5) rfl (.cons (.free rfl) (.cons (.free rfl) .nil)) trivial memNil .nil memNil rfl trivial memNil rfl rfl rfl rfl rfl rfl ?_
     refine grd_elim h fun g6 h => ?_
     refine s_addI rfl rfl rfl rfl g6 rfl rfl rfl ?_
     refine m2 ?_
     refine rt_nil ?_
     refine Exists.intro ⟨x4 + 1, h⟩ ?_
     refine entX [] [] trivial trivial rfl rfl ?_
     exact ⟨(.free rfl), (.free rfl), (.free rfl), (.free rfl), trivial⟩
    ·replace h := cond_f h c3
     refine tri_skip ?_
     refine Exists.intro ⟨p3, h⟩ ?_
     refine entX [] [] trivial trivial rfl rfl ?_
     exact ⟨(.free rfl), (.free rfl), (.free rfl), (.free rfl), trivial⟩
   ·rintro ⟨j0_0, h⟩
    replace h : strings_genSplit_j0 p0 p1 p2 j0_0 = some r0 := h
    unfold strings_genSplit_j0 at h
    show Tri _ _ _ (inv_strings_genSplit_0 p0 p1 p2 j0_0)
    refine tri_sr ?_
    refine m1 ?_
    refine m1 ?_
    refine s_of (st_lenS rfl rfl iss9) rfl rfl rfl rfl ?_
    refine grd_elim h fun g3 h => ?_
    refine s_addI rfl rfl rfl rfl g3 rfl rfl rfl ?_
    refine s_of (st_minI rfl rfl rfl) rfl rfl rfl rfl ?_
    refine m2 ?_
    refine rt_nil ?_
    refine tri_sr ?_
    refine m1 ?_
    refine grd_elim h fun g4 h => ?_
    refine s_makeL (f := strV) (a := (⟨#[]⟩ : ByteArray)) rfl rfl rfl rfl rfl sl33 zc9 rfl rfl rfl rfl g4.1 g4.2 (rowZ_cv rfl rowZ_nil) rfl rfl ?_
    refine m2 ?_
    refine rt_nil ?_
    refine tri_sr ?_
    refine m1 ?_
    refine grd_elim h fun g5 h => ?_
    refine s_subI rfl rfl rfl rfl g5 rfl rfl rfl ?_
    refine m2 ?_
    refine rt_nil ?_
    refine tri_sr ?_
    refine s_mv (.inr rfl) (v := .sc (.int .i64 0)) rfl rfl rfl rfl ?_
    refine rt_nil ?_
    refine tri_cutI (ι := { p : ByteArray × (List ByteArray) × Int // strings_genSplit_j1 p.1 p.2.1 p.2.2 = some r0 }) (fun p => inv_strings_genSplit_1 p.1.1 p.1.2.1 p.1.2.2) ?_ ?_
    ·skip
     refine tri_block ?_
     refine tri_loop (ι := { p : Nat × ByteArray × (List ByteArray) × Int // strings_genSplit_l2 p0 p1 p2 j0_0 p.1 p.2.1 p.2.2.1 p.2.2.2 = some r0 }) (fun p => inv_strings_genSplit_2 p0 p1 p2 j0_0 p.1.2.1 p.1.2.2.1 p.1.2.2.2) (fun p => p.1.1) ⟨(fuel0, p0, List.replicate (if (p0.size : Int) + 1 < j0_0 then (p0.size : Int) + 1 else j0_0).toNat (⟨#[]⟩ : ByteArray), 0), h⟩ ?_ ?_
     ·skip
      refine entX [((31, 0), ⟨9, 1, List.map strV (List.replicate (if (p0.size : Int) + 1 < j0_0 then (p0.size : Int) + 1 else j0_0).toNat (⟨#[]⟩ : ByteArray)), false, true⟩, some (31, 0))] [] ⟨⟨rfl, _, rfl, rfl, rfl, rfl, id, rowsCv_eq rfl (allFree_map strV_free), rowsZ_map strV_len⟩, trivial⟩ trivial rfl rfl ?_
      exact ⟨(.free rfl), (.free rfl), (.free rfl), (.free rfl), (.ref rfl), (.free rfl), trivial⟩
     ·rintro ⟨⟨f2, v2_0, v2_1, v2_2⟩, h⟩
      replace h : strings_genSplit_l2 p0 p1 p2 j0_0 f2 v2_0 v2_1 v2_2 = some r0 := h
      cases f2 with
      | zero => cases h
      | succ f2 =>
      rw [strings_genSplit_l2] at h
      show Tri _ _ _ (inv_strings_genSplit_2 p0 p1 p2 j0_0 v2_0 v2_1 v2_2)
      refine tri_seq ?_
      refine tri_sr ?_
      refine m1 ?_
      refine m1 ?_
      refine s_of (st_lss rfl rfl rfl) rfl rfl rfl rfl ?_
      refine rt_nil ?_
      refine tri_cond rfl (fun c6 => ?_) (fun c6 => ?_)
      ·replace h := cond_t h c6
       refine tri_skip ?_
       refine tri_block ?_
       refine tri_sr ?_
       refine m1 ?_
       refine m1 ?_
       refine bnd1_elim h fun x7 q8 h => ?_
       refine s_callN (kb := []) (ns := []) (v := .sc (.int .i64 x7)) rfl rfl cl209 (wstrings_Index v2_0 p1 x7 q8) rfl (.cons (.free rfl) (.cons (.free rfl) .nil)) trivial memNil .nil memNil rfl trivial memNil rfl rfl rfl rfl rfl rfl ?_
       refine m2 ?_
       refine rt_nil ?_
       refine tri_seq ?_
       refine tri_sr ?_
       refine m1 ?_
       refine s_of (st_lss rfl rfl rfl) rfl rfl rfl rfl ?_
       refine rt_nil ?_
       refine tri_cond rfl (fun c9 => ?_) (fun c9 => ?_)
       ·replace h := cond_t h c9
        refine tri_exit ?_
        refine Exists.intro ⟨(v2_0, v2_1, v2_2), h⟩ ?_
        refine entX [((31, 0), ⟨9, 1, List.map strV v2_1, false, true⟩, some (31, 0))] [] ⟨⟨rfl, _, rfl, rfl, rfl, rfl, id, rowsCv_eq rfl (allFree_map strV_free), rowsZ_map strV_len⟩, trivial⟩ trivial rfl rfl ?_
        exact ⟨(.free rfl), (.ref rfl), (.free rfl), trivial⟩
       ·replace h := cond_f h c9
        refine tri_skip ?_
        refine tri_sr ?_
        refine m1 ?_
        refine m1 ?_
        refine m1 ?_
        refine m1 ?_
        refine m1 ?_
        refine grd_elim h fun g10 h => ?_
        refine s_addI rfl rfl rfl rfl g10 rfl rfl rfl ?_
        refine grd_elim h fun g11 h => ?_
        refine s_sliceS (a := ((0 : Nat) : Int)) (b := x7 + p2) rfl rfl iss9 rfl ⟨_, rfl⟩ g11 rfl rfl rfl ?_
        refine bnd1_elim h fun x12 q13 h => ?_
        have q13a := (idx_some q13).1; have q13b := (idx_some q13).2
        refine s_indexZ rfl rfl rfl rfl sl33 rfl q13a (get_lt q13b) rfl rfl rfl ?_
        refine s_storeL (x' := v2_0.extract ((0 : Nat) : Int).toNat (x7 + p2).toNat) rfl rfl rfl q13b ty9 rfl rfl rfl rfl rfl rfl ?_
        refine rt_nil ?_
        refine tri_sr ?_
        refine m1 ?_
        refine m1 ?_
        refine m1 ?_
        refine s_of (st_lenS rfl rfl iss9) rfl rfl rfl rfl ?_
        refine grd_elim h fun g14 h => ?_
        refine s_addI rfl rfl rfl rfl g14 rfl rfl rfl ?_
        refine grd_elim h fun g15 h => ?_
        refine s_sliceS (a := x7 + (p1.size : Int)) (b := (v2_0.size : Int)) rfl rfl iss9 ⟨_, rfl⟩ rfl g15 rfl rfl rfl ?_
        refine m2 ?_
        refine rt_nil ?_
        refine tri_region ?_
        refine m1 ?_
        refine grd_elim h fun g16 h => ?_
        refine s_addI rfl rfl rfl rfl g16 rfl rfl rfl ?_
        refine m2 ?_
        refine rt_nil ?_
        refine Exists.intro ⟨(f2, v2_0.extract (x7 + (p1.size : Int)).toNat (v2_0.size : Int).toNat, v2_1.set v2_2.toNat (v2_0.extract ((0 : Nat) : Int).toNat (x7 + p2).toNat), v2_2 + 1), h⟩ (And.intro (Nat.lt_succ_self _) ?_)
        refine entX [((31, 0), ⟨9, 1, List.map strV (v2_1.set v2_2.toNat (v2_0.extract ((0 : Nat) : Int).toNat (x7 + p2).toNat)), false, true⟩, some (31, 0))] [] ⟨⟨rfl, _, rfl, rfl, rfl, rfl, id, rowsCv_eq rfl (allFree_map strV_free), rowsZ_map strV_len⟩, trivial⟩ trivial rfl rfl ?_
        exact ⟨(.free rfl), (.free rfl), (.free rfl), (.free rfl), (cvRefLen rfl (by simp only [List.length_set])), (.free rfl), trivial⟩
      ·replace h := cond_f h c6
       refine tri_exit ?_
       refine Exists.intro ⟨(v2_0, v2_1, v2_2), h⟩ ?_
       refine entX [((31, 0), ⟨9, 1, List.map strV v2_1, false, true⟩, some (31, 0))] [] ⟨⟨rfl, _, rfl, rfl, rfl, rfl, id, rowsCv_eq rfl (allFree_map strV_free), rowsZ_map strV_len⟩, trivial⟩ trivial rfl rfl ?_
       exact ⟨(.free rfl), (.ref rfl), (.free rfl), trivial⟩
    ·rintro ⟨⟨j1_0, j1_1, j1_2⟩, h⟩
     replace h : strings_genSplit_j1 j1_0 j1_1 j1_2 = some r0 := h
     unfold strings_genSplit_j1 at h
     show Tri _ _ _ (inv_strings_genSplit_1 j1_0 j1_1 j1_2)
     refine tri_sr ?_
     refine m1 ?_
     refine m1 ?_
     refine m1 ?_
     refine bnd1_elim h fun x6 q7 h => ?_
     have q7a := (idx_some q7).1; have q7b := (idx_some q7).2
     refine s_indexZ rfl rfl rfl rfl sl33 rfl q7a (get_lt q7b) rfl rfl rfl ?_
     refine s_storeL (x' := j1_0) rfl rfl rfl q7b ty9 rfl rfl rfl rfl rfl rfl ?_
     refine rt_nil ?_
     refine tri_sr ?_
     refine m1 ?_
     refine m1 ?_
     refine grd_elim h fun g8 h => ?_
     refine s_addI rfl rfl rfl rfl g8 rfl rfl rfl ?_
     refine grd_elim h fun g9 h => ?_
     refine s_sliceZ (a := ((0 : Nat) : Int)) (b := j1_2 + 1) rfl rfl rfl sl33 rfl rfl ⟨_, rfl⟩ g9 rfl rfl rfl ?_
     refine m2 ?_
     refine rt_nil ?_
     refine tri_ret ?_
     have e0 := (some1 h); subst e0
     exact endY (v' := .ref (2000, 0) 0 ((((j1_1.set j1_2.toNat j1_0).drop (0 + ((0 : Nat) : Int).toNat)).take ((j1_2 + 1).toNat - ((0 : Nat) : Int).toNat)).length)) [((2000, 0), ⟨9, 1, List.map strV (((j1_1.set j1_2.toNat j1_0).drop (0 + ((0 : Nat) : Int).toNat)).take ((j1_2 + 1).toNat - ((0 : Nat) : Int).toNat)), false, true⟩, some (31, 0))] [] (rvC (resTmp rfl) rvN) ⟨⟨rfl, _, rfl, rfl, rfl, rfl, id, rowsCv_pre rfl strV_free, rowsZ_map strV_len⟩, trivial⟩ trivial rfl rfl (by kernel_rfl) (by simp only [V.mat, V.mat1, V.mat0, matL, matT, List.length_map] <;> rfl) (cvRefPre rfl rfl (by simp only [List.length_take, List.length_drop, List.length_set]; omega))

/- strings.Split -/

set_option maxRecDepth 4000 in
set_option maxHeartbeats 800000 in
theorem wstrings_Split (p0 : ByteArray) (p1 : ByteArray) (r0 : List ByteArray) (h : strings_Split p0 p1 = some r0) : Runs Tryd.prog 151 [.sc (.string p0), .sc (.string p1)] [] (.own 9 1 (List.map strV r0)) [] := by
 unfold strings_Split at h
 refine runsR [.tmp 4] Tryd.func151 rfl rfl rfl rfl ?_
 rw [Tryd.ntmps151]
 refine tri_sr ?_
 refine s_mv (.inr rfl) (v := .nils) rfl rfl rfl rfl ?_
 refine rt_nil ?_
 refine tri_sr ?_
 refine m1 ?_
 refine m1 ?_
 refine bnd1_elim h fun x1 q2 h => ?_
 refine s_callN (kb := []) (ns := []) (v := .ref (7, 0) 0 x1.length) rfl rfl cl186 (wstrings_genSplit p0 p1 0 (-1) x1 q2) rfl (.cons (.free rfl) (.cons (.free rfl) (.cons (.free rfl) (.cons (.free rfl) .nil)))) trivial memNil .nil memNil rfl ⟨(allSc_map strV_sc), trivial⟩ memNil rfl (by simp only [V.mat, V.mat1, V.mat0, matL, matT, List.length_map] <;> rfl) rfl rfl rfl rfl ?_
 refine m2 ?_
 refine rt_nil ?_
 refine tri_ret ?_
 have e0 := (some1 h); subst e0
 exact endY (v' := .ref (2000, 0) 0 x1.length) [((2000, 0), ⟨9, 1, List.map strV x1, false, true⟩, some (7, 0))] [] (rvC (resTmp rfl) rvN) ⟨⟨rfl, _, rfl, rfl, rfl, rfl, id, rowsCv_eq rfl (allFree_map strV_free), rowsZ_map strV_len⟩, trivial⟩ trivial rfl rfl (by kernel_rfl) (by simp only [V.mat, V.mat1, V.mat0, matL, matT, List.length_map] <;> rfl) (.ref rfl)

/- impl.Labels -/

set_option maxRecDepth 4000 in
set_option maxHeartbeats 800000 in
theorem wi_Labels (p0 : ByteArray) (r0 : List ByteArray) (h : i_Labels p0 = some r0) : Runs Tryd.prog 96 [.sc (.string p0)] [] (.own 9 1 (List.map strV r0)) [] := by
 unfold i_Labels at h
 refine runsR [.tmp 2] Tryd.func96 rfl rfl rfl rfl ?_
 rw [Tryd.ntmps96]
 refine tri_sr ?_
 refine s_mv (.inr rfl) (v := .nils) rfl rfl rfl rfl ?_
 refine rt_nil ?_
 refine tri_seq ?_
 refine tri_sr ?_
 refine m1 ?_
 refine s_of (st_eqS rfl rfl rfl) rfl rfl rfl rfl ?_
 refine rt_nil ?_
 refine tri_cond rfl (fun c1 => ?_) (fun c1 => ?_)
 ·replace h := cond_t h c1
  refine tri_sr ?_
  refine s_mv (.inr rfl) (v := .nils) rfl rfl rfl rfl ?_
  refine rt_nil ?_
  refine tri_ret ?_
  have e0 := (some1 h); subst e0
  exact endY (v' := .ref (2000, 0) 0 (([] : List ByteArray).length)) [((2000, 0), ⟨9, 1, List.map strV ([] : List ByteArray), false, true⟩, none)] [] (rvC (resTmp rfl) rvN) ⟨rfl, trivial⟩ trivial rfl rfl (by kernel_rfl) (by simp only [V.mat, V.mat1, V.mat0, matL, matT, List.length_map] <;> rfl) (.nilRef rfl)
 ·replace h := cond_f h c1
  refine tri_skip ?_
  refine tri_sr ?_
  refine m1 ?_
  refine bnd1_elim h fun x2 q3 h => ?_
  refine s_callN (kb := []) (ns := []) (v := .ref (6, 0) 0 x2.length) rfl rfl cl151 (wstrings_Split p0 (⟨#[46]⟩ : ByteArray) x2 q3) rfl (.cons (.free rfl) (.cons (.free rfl) .nil)) trivial memNil .nil memNil rfl ⟨(allSc_map strV_sc), trivial⟩ memNil rfl (by simp only [V.mat, V.mat1, V.mat0, matL, matT, List.length_map] <;> rfl) rfl rfl rfl rfl ?_
  refine m2 ?_
  refine rt_nil ?_
  refine tri_ret ?_
  have e0 := (some1 h); subst e0
  exact endY (v' := .ref (2000, 0) 0 x2.length) [((2000, 0), ⟨9, 1, List.map strV x2, false, true⟩, some (6, 0))] [] (rvC (resTmp rfl) rvN) ⟨⟨rfl, _, rfl, rfl, rfl, rfl, id, rowsCv_eq rfl (allFree_map strV_free), rowsZ_map strV_len⟩, trivial⟩ trivial rfl rfl (by kernel_rfl) (by simp only [V.mat, V.mat1, V.mat0, matL, matT, List.length_map] <;> rfl) (.ref rfl)

/- strings.Join -/

theorem wstrings_Join (p0 : List ByteArray) (p1 : ByteArray) (r0 : ByteArray) (h : strings_Join p0 p1 = some r0) : Runs Tryd.prog 154 [.lst 1 (List.map strV p0), .sc (.string p1)] [] (.sc (.string r0)) [] := by
 unfold strings_Join at h
 refine grd_elim h fun g h => ?_
 have e0 := (some1 h); subst e0
 exact runs_join (g := joinB) (fun a c w _ => Any.strings_Join_none Tryd.lays156 Tryd.extra156 a c p1 w) (fun bk o c w hc hb hl _ => Any.strings_Join Tryd.lays156 Tryd.extra156 bk o c p0 p1 w hc hb g.1 hl g.2)

/- impl.JoinLabels -/

set_option maxRecDepth 4000 in
set_option maxHeartbeats 800000 in
theorem wi_JoinLabels (p0 : List ByteArray) (r0 : ByteArray) (h : i_JoinLabels p0 = some r0) : Runs Tryd.prog 103 [.lst 1 (List.map strV p0)] [] (.sc (.string r0)) [] := by
 unfold i_JoinLabels at h
 refine runsR [.tmp 2] Tryd.func103 rfl rfl rfl rfl ?_
 rw [Tryd.ntmps103]
 refine tri_sr ?_
 refine s_mv (.inr rfl) (v := .sc (.string (⟨#[]⟩ : ByteArray))) rfl rfl rfl rfl ?_
 refine rt_nil ?_
 refine tri_sr ?_
 refine m1 ?_
 refine bnd1_elim h fun x1 q2 h => ?_
 refine s_callN (kb := []) (ns := []) (v := .sc (.string x1)) rfl rfl cl154 (wstrings_Join p0 (⟨#[46]⟩ : ByteArray) x1 q2) rfl (.cons (.free rfl) (.cons (.free rfl) .nil)) trivial memNil .nil memNil rfl trivial memNil rfl rfl rfl rfl rfl rfl ?_
 refine m2 ?_
 refine rt_nil ?_
 refine tri_ret ?_
 have e0 := (some1 h); subst e0
 exact endY [] [] (rvC (resTmp rfl) rvN) trivial trivial rfl rfl rfl rfl (.free rfl)

/- impl.Above -/
def inv_i_Above_1 (x1 : List ByteArray) (v1_0 : List ByteArray) (v1_1 : Nat) : St := mkT 25 [(3, .ref (2003, 0) 0 v1_0.length), (4, .ref (8, 0) 0 x1.length), (10, .sc (.int .i64 (x1.length : Int))), (11, .sc (.int .i64 (v1_1 : Int)))] [((2003, 0), some ⟨9, 1, List.map strV v1_0, false, true⟩), ((8, 0), some ⟨9, 1, List.map strV x1, false, true⟩)]
def inv_i_Above_0  (j0_0 : List ByteArray) : St := mkT 25 [(3, .ref (2003, 0) 0 j0_0.length)] [((2003, 0), some ⟨9, 1, List.map strV j0_0, false, true⟩)]
set_option maxRecDepth 4000 in
set_option maxHeartbeats 800000 in
theorem wi_Above (p0 : ByteArray) (r0 : List ByteArray) (h : i_Above p0 = some r0) : Runs Tryd.prog 23 [.sc (.string p0)] [] (.own 9 1 (List.map strV r0)) [] := by
 unfold i_Above at h
 refine runsR [.tmp 2] Tryd.func23 rfl rfl rfl rfl ?_
 rw [Tryd.ntmps23]
 refine tri_sr ?_
 refine s_mv (.inr rfl) (v := .nils) rfl rfl rfl rfl ?_
 refine rt_nil ?_
 refine tri_sr ?_
 refine s_buildSlice (rows' := List.map strV ([] : List ByteArray)) rfl rfl rfl sl33 zc9 rfl rfl rfl rfl rfl rfl rfl rfl rfl ?_
 refine m2 ?_
 refine rt_nil ?_
 refine tri_sr ?_
 refine m1 ?_
 refine bnd1_elim h fun x1 q2 h => ?_
 refine s_callN (kb := []) (ns := []) (v := .ref (8, 0) 0 x1.length) rfl rfl cl96 (wi_Labels p0 x1 q2) rfl (.cons (.free rfl) .nil) trivial memNil .nil memNil rfl ⟨(allSc_map strV_sc), trivial⟩ memNil rfl (by simp only [V.mat, V.mat1, V.mat0, matL, matT, List.length_map] <;> rfl) rfl rfl rfl rfl ?_
 refine m2 ?_
 refine rt_nil ?_
 refine tri_cutI (ι := { p : (List ByteArray) // i_Above_j0 p = some r0 }) (fun p => inv_i_Above_0 p.1) ?_ ?_
 ·skip
  refine tri_sr ?_
  refine m1 ?_
  refine s_len (m := x1.length) rfl sl33 rfl rfl rfl rfl ?_
  refine s_mv (.inl rfl) (v := .sc (.int .i64 0)) rfl rfl rfl rfl ?_
  refine rt_nil ?_
  refine tri_block ?_
  refine tri_ownM (8, 0) rfl (fun hl1 => ?_)
  refine tri_loop (ι := { p : (List ByteArray) × (List ByteArray) × Nat // x1.drop p.2.2 = p.1 ∧ i_Above_l1 x1 p.1 p.2.1 p.2.2 = some r0 }) (fun p => inv_i_Above_1 x1 p.1.2.1 p.1.2.2) (fun p => p.1.1.length) ⟨(x1, ([] : List ByteArray), 0), rfl, h⟩ ?_ ?_
  ·skip
   refine entX [((2003, 0), ⟨9, 1, List.map strV ([] : List ByteArray), false, true⟩, some (6, 0)), ((8, 0), ⟨9, 1, List.map strV x1, false, true⟩, some (8, 0))] [] ⟨⟨rfl, _, rfl, rfl, rfl, rfl, id, rowsCv_eq rfl (allFree_map strV_free), rowsZ_map strV_len⟩, ⟨rfl, _, rfl, rfl, rfl, rfl, id, rowsCv_eq rfl (allFree_map strV_free), rowsZ_map strV_len⟩, trivial⟩ trivial rfl rfl ?_
   exact ⟨(.ref rfl), (.ref rfl), (.free rfl), (.free rfl), trivial⟩
  ·rintro ⟨⟨lrs1, v1_0, v1_1⟩, hd1, h⟩
   replace hd1 : x1.drop v1_1 = lrs1 := hd1
   replace h : i_Above_l1 x1 lrs1 v1_0 v1_1 = some r0 := h
   show Tri _ _ _ (inv_i_Above_1 x1 v1_0 v1_1)
   refine tri_sr ?_
   refine s_of (st_lss rfl rfl rfl) rfl rfl rfl rfl ?_
   refine rt_nil ?_
   refine tri_seq ?_
   refine tri_cond rfl (fun c3 => ?_) (fun c3 => ?_)
   ·refine drop_elim hd1 c3 fun e1 rs1 he hx1 hn1 => ?_
    subst he
    rw [i_Above_l1] at h
    refine tri_skip ?_
    refine tri_seq ?_
    refine tri_block ?_
    refine tri_sr ?_
    refine m1 ?_
    refine m2 ?_
    refine rt_nil ?_
    refine tri_region ?_
    refine m1 ?_
    refine m1 ?_
    refine m1 ?_
    refine grd_elim h fun g4 h => ?_
    refine s_sliceZ (a := (v1_1 : Int)) (b := (x1.length : Int)) rfl rfl rfl sl33 rfl ⟨_, rfl⟩ rfl g4 rfl rfl rfl ?_
    refine bnd1_elim h fun x5 q6 h => ?_
    refine s_callN (kb := [(8, 0)]) (ns := []) (v := .sc (.string x5)) rfl rfl cl103 (wi_JoinLabels ((x1.drop (0 + (v1_1 : Int).toNat)).take ((x1.length : Int).toNat - (v1_1 : Int).toNat)) x5 q6) rfl (.cons (lendV rfl (.head _) (by first | omega | (simp only [List.length_set]; omega)) strV_free strV_len) .nil) trivial memNil .nil (fun _ _ => List.not_mem_nil) rfl trivial memNil rfl rfl rfl rfl rfl rfl ?_
    refine s_buildSlice (rows' := List.map strV [x5]) rfl rfl rfl sl33 zc9 rfl rfl rfl rfl rfl rfl rfl rfl rfl ?_
    refine grd_elim h fun g7 h => ?_
    refine s_appL rfl rfl rfl sl33 zc9 rfl rfl rfl rfl rfl rfl (src_refL rfl rfl) g7 rfl rfl ?_
    refine m2 ?_
    refine rt_nil ?_
    refine tri_region ?_
    refine s_inc (a := v1_1) (b := 1) rfl rfl rfl rfl (by have := get_lt hx1; have := hl1; omega) rfl rfl rfl ?_
    refine m1 ?_
    refine rt_nil ?_
    refine Exists.intro ⟨(rs1, v1_0 ++ [x5], (v1_1 + 1)), hn1, h⟩ (And.intro (Nat.lt_succ_self _) ?_)
    refine entX [((2003, 0), ⟨9, 1, List.map strV (v1_0 ++ [x5]), false, true⟩, some (20, 0)), ((8, 0), ⟨9, 1, List.map strV x1, false, true⟩, some (8, 0))] [] ⟨⟨rfl, _, rfl, rfl, rfl, rfl, id, rowsCv_eq rfl (allFree_map strV_free), rowsZ_map strV_len⟩, ⟨rfl, _, rfl, rfl, rfl, rfl, id, rowsCv_eq rfl (allFree_map strV_free), rowsZ_map strV_len⟩, trivial⟩ trivial rfl rfl ?_
    exact ⟨(.ref rfl), (.ref rfl), (.free rfl), (.free rfl), trivial⟩
   ·have he := drop_f hd1 c3; subst he
    rw [i_Above_l1] at h
    refine tri_exit ?_
    refine Exists.intro ⟨v1_0, h⟩ ?_
    refine entX [((2003, 0), ⟨9, 1, List.map strV v1_0, false, true⟩, some (2003, 0))] [] ⟨⟨rfl, _, rfl, rfl, rfl, rfl, id, rowsCv_eq rfl (allFree_map strV_free), rowsZ_map strV_len⟩, trivial⟩ trivial rfl rfl ?_
    exact ⟨(.ref rfl), trivial⟩
 ·rintro ⟨j0_0, h⟩
  replace h : i_Above_j0 j0_0 = some r0 := h
  unfold i_Above_j0 at h
  show Tri _ _ _ (inv_i_Above_0 j0_0)
  refine tri_sr ?_
  refine m1 ?_
  refine s_buildSlice (rows' := List.map strV [(⟨#[]⟩ : ByteArray)]) rfl rfl rfl sl33 zc9 rfl rfl rfl rfl rfl rfl rfl rfl rfl ?_
  refine grd_elim h fun g3 h => ?_
  refine s_appL rfl rfl rfl sl33 zc9 rfl rfl rfl rfl rfl rfl (src_refL rfl rfl) g3 rfl rfl ?_
  refine m2 ?_
  refine rt_nil ?_
  refine tri_ret ?_
  have e0 := (some1 h); subst e0
  exact endY (v' := .ref (2000, 0) 0 ((j0_0 ++ ([(⟨#[]⟩ : ByteArray)])).length)) [((2000, 0), ⟨9, 1, List.map strV (j0_0 ++ ([(⟨#[]⟩ : ByteArray)])), false, true⟩, some (24, 0))] [] (rvC (resTmp rfl) rvN) ⟨⟨rfl, _, rfl, rfl, rfl, rfl, id, rowsCv_eq rfl (allFree_map strV_free), rowsZ_map strV_len⟩, trivial⟩ trivial rfl rfl (by kernel_rfl) (by simp only [V.mat, V.mat1, V.mat0, matL, matT, List.length_map] <;> rfl) (.ref rfl)

/- slices.Equal[[]string,string] -/
def inv_slices_Equal_string_0 (p0 : List ByteArray) (p1 : List ByteArray) (v0_0 : Nat) : St := mkT 26 [(0, .lst 1 (List.map strV p0)), (1, .lst 1 (List.map strV p1)), (12, .sc (.int .i64 (p0.length : Int))), (13, .sc (.int .i64 (v0_0 : Int)))] []
set_option maxRecDepth 4000 in
set_option maxHeartbeats 800000 in
theorem wslices_Equal_string (p0 : List ByteArray) (p1 : List ByteArray) (r0 : Bool) (h : slices_Equal_string p0 p1 = some r0) : Runs Tryd.prog 97 [.lst 1 (List.map strV p0), .lst 1 (List.map strV p1)] [] (.sc (.bool r0)) [] := by
 unfold slices_Equal_string at h
 refine runsR [.tmp 4] Tryd.func97 rfl rfl rfl rfl ?_
 rw [Tryd.ntmps97]
 refine tri_sr ?_
 refine s_mv (.inr rfl) (v := .sc (.bool false)) rfl rfl rfl rfl ?_
 refine rt_nil ?_
 refine tri_seq ?_
 refine tri_sr ?_
 refine m1 ?_
 refine s_lenL rfl sl33 rfl rfl rfl rfl ?_
 refine m1 ?_
 refine s_lenL rfl sl33 rfl rfl rfl rfl ?_
 refine s_of (st_neI rfl rfl rfl) rfl rfl rfl rfl ?_
 refine rt_nil ?_
 refine tri_cond rfl (fun c1 => ?_) (fun c1 => ?_)
 ·replace h := cond_t h c1
  refine tri_sr ?_
  refine s_mv (.inr rfl) (v := .sc (.bool false)) rfl rfl rfl rfl ?_
  refine rt_nil ?_
  refine tri_ret ?_
  have e0 := (some1 h); subst e0
  exact endY [] [] (rvC (resTmp rfl) rvN) trivial trivial rfl rfl rfl rfl (.free rfl)
 ·replace h := cond_f h c1
  refine tri_skip ?_
  refine tri_seq ?_
  refine tri_sr ?_
  refine m1 ?_
  refine s_lenL rfl sl33 rfl rfl rfl rfl ?_
  refine s_mv (.inl rfl) (v := .sc (.int .i64 0)) rfl rfl rfl rfl ?_
  refine rt_nil ?_
  refine tri_block ?_
  refine tri_lstM 0 rfl (fun hl0 => ?_)
  refine tri_loop (ι := { p : (List ByteArray) × Nat // p0.drop p.2 = p.1 ∧ slices_Equal_string_l0 p1 p.1 p.2 = some r0 }) (fun p => inv_slices_Equal_string_0 p0 p1 p.1.2) (fun p => p.1.1.length) ⟨(p0, 0), rfl, h⟩ ?_ ?_
  ·skip
   refine entX [] [] trivial trivial rfl rfl ?_
   exact ⟨(.free rfl), (.free rfl), (.free rfl), (.free rfl), trivial⟩
  ·rintro ⟨⟨lrs0, v0_0⟩, hd0, h⟩
   replace hd0 : p0.drop v0_0 = lrs0 := hd0
   replace h : slices_Equal_string_l0 p1 lrs0 v0_0 = some r0 := h
   show Tri _ _ _ (inv_slices_Equal_string_0 p0 p1 v0_0)
   refine tri_sr ?_
   refine s_of (st_lss rfl rfl rfl) rfl rfl rfl rfl ?_
   refine rt_nil ?_
   refine tri_seq ?_
   refine tri_cond rfl (fun c2 => ?_) (fun c2 => ?_)
   ·refine drop_elim hd0 c2 fun e0 rs0 he hx0 hn0 => ?_
    subst he
    rw [slices_Equal_string_l0] at h
    refine tri_skip ?_
    refine tri_seq ?_
    refine tri_block ?_
    refine tri_sr ?_
    refine m1 ?_
    refine m2 ?_
    refine rt_nil ?_
    refine tri_seq ?_
    refine tri_draw mixed ?_
    refine m1 ?_
    refine m1 ?_
    refine s_indexF (i := v0_0) rfl rfl rfl sl33 (get_ltM hx0) rfl rfl rfl ?_
    refine s_loadF rfl rfl (rowG hx0) ty9 rfl (.inr rfl) (by conv => lhs; whnf) rfl rfl rfl ?_
    refine m1 ?_
    refine m1 ?_
    refine bnd1_elim h fun x3 q4 h => ?_
    have q4a := (idx_some q4).1; have q4b := (idx_some q4).2
    refine s_indexFZ rfl rfl rfl sl33 q4a (get_ltM q4b) rfl rfl rfl ?_
    refine s_loadF rfl rfl (rowG q4b) ty9 rfl (.inr rfl) (by conv => lhs; whnf) rfl rfl rfl ?_
    refine s_of (st_neS rfl rfl rfl) rfl rfl rfl rfl ?_
    refine rt_nil ⟨by kernel_rfl, ?_⟩
    refine tri_cond rfl (fun c5 => ?_) (fun c5 => ?_)
    ·replace h := cond_t h c5
     refine tri_sr ?_
     refine s_mv (.inr rfl) (v := .sc (.bool false)) rfl rfl rfl rfl ?_
     refine rt_nil ?_
     refine tri_ret ?_
     have e0 := (some1 h); subst e0
     exact endY [] [] (rvC (resTmp rfl) rvN) trivial trivial rfl rfl rfl rfl (.free rfl)
    ·replace h := cond_f h c5
     refine tri_skip ?_
     refine tri_region ?_
     refine s_inc (a := v0_0) (b := 1) rfl rfl rfl rfl (by have := get_lt hx0; have := hl0; omega) rfl rfl rfl ?_
     refine m1 ?_
     refine rt_nil ?_
     refine Exists.intro ⟨(rs0, (v0_0 + 1)), hn0, h⟩ (And.intro (Nat.lt_succ_self _) ?_)
     refine entX [] [] trivial trivial rfl rfl ?_
     exact ⟨(.free rfl), (.free rfl), (.free rfl), (.free rfl), trivial⟩
   ·have he := drop_f hd0 c2; subst he
    rw [slices_Equal_string_l0] at h
    refine tri_exit ?_
    refine tri_sr ?_
    refine s_mv (.inr rfl) (v := .sc (.bool true)) rfl rfl rfl rfl ?_
    refine rt_nil ?_
    refine tri_ret ?_
    have e0 := (some1 h); subst e0
    exact endY [] [] (rvC (resTmp rfl) rvN) trivial trivial rfl rfl rfl rfl (.free rfl)

/- impl.Under -/

set_option maxRecDepth 4000 in
set_option maxHeartbeats 800000 in
theorem wi_Under (p0 : ByteArray) (p1 : ByteArray) (r0 : Bool) (h : i_Under p0 p1 = some r0) : Runs Tryd.prog 17 [.sc (.string p0), .sc (.string p1)] [] (.sc (.bool r0)) [] := by
 unfold i_Under at h
 refine runsR [.tmp 4] Tryd.func17 rfl rfl rfl rfl ?_
 rw [Tryd.ntmps17]
 refine tri_sr ?_
 refine s_mv (.inr rfl) (v := .sc (.bool false)) rfl rfl rfl rfl ?_
 refine rt_nil ?_
 refine tri_sr ?_
 refine m1 ?_
 refine bnd1_elim h fun x1 q2 h => ?_
 refine s_callN (kb := []) (ns := []) (v := .ref (8, 0) 0 x1.length) rfl rfl cl96 (wi_Labels p0 x1 q2) rfl (.cons (.free rfl) .nil) trivial memNil .nil memNil rfl ⟨(allSc_map strV_sc), trivial⟩ memNil rfl (by simp only [V.mat, V.mat1, V.mat0, matL, matT, List.length_map] <;> rfl) rfl rfl rfl rfl ?_
 refine m1 ?_
 refine bnd1_elim h fun x3 q4 h => ?_
 refine s_callN (kb := []) (ns := []) (v := .ref (10, 0) 0 x3.length) rfl rfl cl96 (wi_Labels p1 x3 q4) rfl (.cons (.free rfl) .nil) trivial memNil .nil memNil rfl ⟨(allSc_map strV_sc), trivial⟩ memNil rfl (by simp only [V.mat, V.mat1, V.mat0, matL, matT, List.length_map] <;> rfl) rfl rfl rfl rfl ?_
 refine m2 ?_
 refine m2 ?_
 refine rt_nil ?_
 refine tri_sr ?_
 refine m1 ?_
 refine s_len (m := x1.length) rfl sl33 rfl rfl rfl rfl ?_
 refine m1 ?_
 refine s_len (m := x3.length) rfl sl33 rfl rfl rfl rfl ?_
 refine s_of (st_geq rfl rfl rfl) rfl rfl rfl rfl ?_
 refine m1 ?_
 refine s_split (t := 16) rfl (fun b5 => ?_) (fun b5 => ?_)
 ·replace h := cond_t h b5
  refine m1 ?_
  refine m1 ?_
  refine s_len (m := x1.length) rfl sl33 rfl rfl rfl rfl ?_
  refine m1 ?_
  refine s_len (m := x3.length) rfl sl33 rfl rfl rfl rfl ?_
  refine grd_elim h fun g6 h => ?_
  refine s_subI rfl rfl rfl rfl g6 rfl rfl rfl ?_
  refine grd_elim h fun g7 h => ?_
  refine s_sliceZ (a := (x1.length : Int) - (x3.length : Int)) (b := (x1.length : Int)) rfl rfl rfl sl33 rfl ⟨_, rfl⟩ rfl g7 rfl rfl rfl ?_
  refine m1 ?_
  refine bnd1_elim h fun x8 q9 h => ?_
  refine s_callN (kb := [(8, 0), (10, 0)]) (ns := []) (v := .sc (.bool x8)) rfl rfl cl97 (wslices_Equal_string ((x1.drop (0 + ((x1.length : Int) - (x3.length : Int)).toNat)).take ((x1.length : Int).toNat - ((x1.length : Int) - (x3.length : Int)).toNat)) x3 x8 q9) rfl (.cons (lendV rfl (.head _) (by first | omega | (simp only [List.length_set]; omega)) strV_free strV_len) (.cons (lendL rfl (.tail _ (.head _)) rfl strV_free strV_len) .nil)) trivial memNil .nil (fun _ _ => List.not_mem_nil) rfl trivial memNil rfl rfl rfl rfl rfl rfl ?_
  refine s_pickT rfl rfl (by conv => lhs; whnf) rfl rfl rfl ?_
  refine m2 ?_
  refine rt_nil ?_
  refine tri_ret ?_
  have e0 := (some1 h); subst e0
  exact endY [] [] (rvC (resTmp rfl) rvN) trivial trivial rfl rfl rfl rfl (.free rfl)
 ·replace h := cond_f h b5
  refine s_skip rfl rfl rfl ?_
  refine s_skip rfl rfl rfl ?_
  refine s_skip rfl rfl rfl ?_
  refine s_skip rfl rfl rfl ?_
  refine s_skip rfl rfl rfl ?_
  refine s_skip rfl rfl rfl ?_
  refine s_skip rfl rfl rfl ?_
  refine s_skip rfl rfl rfl ?_
  refine s_skip rfl rfl rfl ?_
  refine s_pickF rfl rfl (v := .sc (.bool false)) rfl rfl rfl rfl ?_
  refine m2 ?_
  refine rt_nil ?_
  refine tri_ret ?_
  have e0 := (some1 h); subst e0
  exact endY [] [] (rvC (resTmp rfl) rvN) trivial trivial rfl rfl rfl rfl (.free rfl)

/- impl.AskMsg -/

set_option maxRecDepth 4000 in
set_option maxHeartbeats 800000 in
theorem wi_AskMsg (p0 : Int) (p1 : Quest) (r0 : MMsg) (h : i_AskMsg p0 p1 = some r0) : Runs Tryd.prog 25 [.sc (.int .i64 p0), .agg (questV p1)] [] (.agg [.sc (.int .i64 r0.id), .sc (.bool r0.reply), .sc (.bool r0.auth), .sc (.bool r0.cut), .sc (.bool r0.want), .sc (.bool r0.can), .sc (.int .i64 r0.code), .sc (.string r0.q.name), .sc (.int .i64 r0.q.ty), .own 39 6 (List.map recV r0.an), .own 39 6 (List.map recV r0.au), .own 39 6 (List.map recV r0.ad)]) [] := by
 unfold i_AskMsg at h
 refine runsR [.cell 4 50] Tryd.func25 rfl rfl rfl rfl ?_
 rw [Tryd.ntmps25]
 refine tri_sr ?_
 refine s_box rfl rfl rfl rfl rfl rfl rfl ?_
 refine s_alloc rfl rfl rfl zc50 rfl rfl rfl rfl rfl ?_
 refine rt_nil ?_
 refine tri_sr ?_
 refine m1 ?_
 refine s_loadR rfl rfl rfl rfl ty28 rfl rfl rfl ?_
 refine s_build (cells' := [.sc (.int .i64 p0), .sc (.bool false), .sc (.bool false), .sc (.bool false), .sc (.bool false), .sc (.bool false), .sc (.int .i64 0), .sc (.string p1.name), .sc (.int .i64 p1.ty), .nils, .nils, .nils]) rfl stc50 rfl rfl rfl rfl rfl rfl rfl ?_
 refine s_storeB rfl rfl rfl ty50 rfl rfl rfl rfl rfl ?_
 refine rt_nil ?_
 refine tri_ret ?_
 have e0 := (some1 h); subst e0
 exact endY (v' := .agg [.sc (.int .i64 p0), .sc (.bool false), .sc (.bool false), .sc (.bool false), .sc (.bool false), .sc (.bool false), .sc (.int .i64 0), .sc (.string p1.name), .sc (.int .i64 p1.ty), .ref (2000, 9) 0 (([] : List Rec).length), .ref (2000, 10) 0 (([] : List Rec).length), .ref (2000, 11) 0 (([] : List Rec).length)]) [((2000, 9), ⟨39, 6, List.map recV ([] : List Rec), false, true⟩, none), ((2000, 10), ⟨39, 6, List.map recV ([] : List Rec), false, true⟩, none), ((2000, 11), ⟨39, 6, List.map recV ([] : List Rec), false, true⟩, none)] [] (rvC (resCell rfl rfl ty50) rvN) ⟨rfl, rfl, rfl, trivial⟩ trivial rfl rfl (by kernel_rfl) (by simp only [V.mat, V.mat1, V.mat0, matL, matT, List.length_map] <;> rfl) (CvL.agg (.cons (.free rfl) (.cons (.free rfl) (.cons (.free rfl) (.cons (.free rfl) (.cons (.free rfl) (.cons (.free rfl) (.cons (.free rfl) (.cons (.free rfl) (.cons (.free rfl) (.cons (.nilRef rfl) (.cons (.nilRef rfl) (.cons (.nilRef rfl) .nil)))))))))))))

/- slices.Index[[]string,string] -/
def inv_slices_Index_string_0 (p0 : List ByteArray) (p1 : ByteArray) (v0_0 : Nat) : St := mkT 19 [(0, .lst 1 (List.map strV p0)), (1, .sc (.string p1)), (7, .sc (.int .i64 (p0.length : Int))), (8, .sc (.int .i64 (v0_0 : Int)))] []
set_option maxRecDepth 4000 in
set_option maxHeartbeats 800000 in
theorem wslices_Index_string (p0 : List ByteArray) (p1 : ByteArray) (r0 : Int) (h : slices_Index_string p0 p1 = some r0) : Runs Tryd.prog 145 [.lst 1 (List.map strV p0), .sc (.string p1)] [] (.sc (.int .i64 r0)) [] := by
 unfold slices_Index_string at h
 refine runsR [.tmp 4] Tryd.func145 rfl rfl rfl rfl ?_
 rw [Tryd.ntmps145]
 refine tri_sr ?_
 refine s_mv (.inr rfl) (v := .sc (.int .i64 0)) rfl rfl rfl rfl ?_
 refine rt_nil ?_
 refine tri_seq ?_
 refine tri_sr ?_
 refine m1 ?_
 refine s_lenL rfl sl33 rfl rfl rfl rfl ?_
 refine s_mv (.inl rfl) (v := .sc (.int .i64 0)) rfl rfl rfl rfl ?_
 refine rt_nil ?_
 refine tri_block ?_
 refine tri_lstM 0 rfl (fun hl0 => ?_)
 refine tri_loop (ι := { p : (List ByteArray) × Nat // p0.drop p.2 = p.1 ∧ slices_Index_string_l0 p1 p.1 p.2 = some r0 }) (fun p => inv_slices_Index_string_0 p0 p1 p.1.2) (fun p => p.1.1.length) ⟨(p0, 0), rfl, h⟩ ?_ ?_
 ·skip
  refine entX [] [] trivial trivial rfl rfl ?_
  exact ⟨(.free rfl), (.free rfl), (.free rfl), (.free rfl), trivial⟩
 ·rintro ⟨⟨lrs0, v0_0⟩, hd0, h⟩
  replace hd0 : p0.drop v0_0 = lrs0 := hd0
  replace h : slices_Index_string_l0 p1 lrs0 v0_0 = some r0 := h
  show Tri _ _ _ (inv_slices_Index_string_0 p0 p1 v0_0)
  refine tri_sr ?_
  refine s_of (st_lss rfl rfl rfl) rfl rfl rfl rfl ?_
  refine rt_nil ?_
  refine tri_seq ?_
  refine tri_cond rfl (fun c1 => ?_) (fun c1 => ?_)
  ·refine drop_elim hd0 c1 fun e0 rs0 he hx0 hn0 => ?_
   subst he
   rw [slices_Index_string_l0] at h
   refine tri_skip ?_
   refine tri_seq ?_
   refine tri_block ?_
   refine tri_sr ?_
   refine m1 ?_
   refine m2 ?_
   refine rt_nil ?_
   refine tri_sr ?_
   refine m1 ?_
   refine m1 ?_
   refine m1 ?_
   refine s_indexF (i := v0_0) rfl rfl rfl sl33 (get_ltM hx0) rfl rfl rfl ?_
   refine s_loadF rfl rfl (rowG hx0) ty9 rfl (.inr rfl) (by conv => lhs; whnf) rfl rfl rfl ?_
   refine s_of (st_eqS rfl rfl rfl) rfl rfl rfl rfl ?_
   refine rt_nil ?_
   refine tri_cond rfl (fun c2 => ?_) (fun c2 => ?_)
   ·replace h := cond_t h c2
    refine tri_sr ?_
    refine m1 ?_
    refine m2 ?_
    refine rt_nil ?_
    refine tri_ret ?_
    have e0 := (some1 h); subst e0
    exact endY [] [] (rvC (resTmp rfl) rvN) trivial trivial rfl rfl rfl rfl (.free rfl)
   ·replace h := cond_f h c2
    refine tri_skip ?_
    refine tri_region ?_
    refine s_inc (a := v0_0) (b := 1) rfl rfl rfl rfl (by have := get_lt hx0; have := hl0; omega) rfl rfl rfl ?_
    refine m1 ?_
    refine rt_nil ?_
    refine Exists.intro ⟨(rs0, (v0_0 + 1)), hn0, h⟩ (And.intro (Nat.lt_succ_self _) ?_)
    refine entX [] [] trivial trivial rfl rfl ?_
    exact ⟨(.free rfl), (.free rfl), (.free rfl), (.free rfl), trivial⟩
  ·have he := drop_f hd0 c1; subst he
   rw [slices_Index_string_l0] at h
   refine tri_exit ?_
   refine tri_sr ?_
   refine s_mv (.inr rfl) (v := .sc (.int .i64 (-1))) rfl rfl rfl rfl ?_
   refine rt_nil ?_
   refine tri_ret ?_
   have e0 := (some1 h); subst e0
   exact endY [] [] (rvC (resTmp rfl) rvN) trivial trivial rfl rfl rfl rfl (.free rfl)

/- slices.Contains[[]string,string] -/

set_option maxRecDepth 4000 in
set_option maxHeartbeats 800000 in
theorem wslices_Contains_string (p0 : List ByteArray) (p1 : ByteArray) (r0 : Bool) (h : slices_Contains_string p0 p1 = some r0) : Runs Tryd.prog 92 [.lst 1 (List.map strV p0), .sc (.string p1)] [] (.sc (.bool r0)) [] := by
 unfold slices_Contains_string at h
 refine runsR [.tmp 4] Tryd.func92 rfl rfl rfl rfl ?_
 rw [Tryd.ntmps92]
 refine tri_sr ?_
 refine s_mv (.inr rfl) (v := .sc (.bool false)) rfl rfl rfl rfl ?_
 refine rt_nil ?_
 refine tri_sr ?_
 refine m1 ?_
 refine m1 ?_
 refine bnd1_elim h fun x1 q2 h => ?_
 refine s_callN (kb := []) (ns := []) (v := .sc (.int .i64 x1)) rfl rfl cl145 (wslices_Index_string p0 p1 x1 q2) rfl (.cons (.free rfl) (.cons (.free rfl) .nil)) trivial memNil .nil memNil rfl trivial memNil rfl rfl rfl rfl rfl rfl ?_
 refine s_of (st_geq rfl rfl rfl) rfl rfl rfl rfl ?_
 refine m2 ?_
 refine rt_nil ?_
 refine tri_ret ?_
 have e0 := (some1 h); subst e0
 exact endY [] [] (rvC (resTmp rfl) rvN) trivial trivial rfl rfl rfl rfl (.free rfl)

end Go.Abs.M
