/- Walks of the functions that the law of FnSets reaches: what each of them computes, where its pure function does not fail. -/
import Derived.Test.YtaggdjciembpdaaFnsFnSets
import Derived.Test.YtaggdjciembpdaaChecked
namespace Go.Abs.M
open Go Go.Abs Go.Proofs
theorem cl18 : callable Try.prog 18 = true := by kernel_rfl
theorem cl20 : callable Try.prog 20 = true := by kernel_rfl
theorem cl32 : callable Try.prog 32 = true := by kernel_rfl
theorem cl33 : callable Try.prog 33 = true := by kernel_rfl
theorem cl36 : callable Try.prog 36 = true := by kernel_rfl
theorem cl37 : callable Try.prog 37 = true := by kernel_rfl
theorem cl48 : callable Try.prog 48 = true := by kernel_rfl
theorem cl49 : callable Try.prog 49 = true := by kernel_rfl
theorem cl53 : callable Try.prog 53 = true := by kernel_rfl
theorem cl54 : callable Try.prog 54 = true := by kernel_rfl
theorem cl55 : callable Try.prog 55 = true := by kernel_rfl
theorem cl56 : callable Try.prog 56 = true := by kernel_rfl
theorem cl57 : callable Try.prog 57 = true := by kernel_rfl
theorem cl72 : callable Try.prog 72 = true := by kernel_rfl
theorem cl73 : callable Try.prog 73 = true := by kernel_rfl
theorem cl78 : callable Try.prog 78 = true := by kernel_rfl
theorem cl80 : callable Try.prog 80 = true := by kernel_rfl
theorem cl81 : callable Try.prog 81 = true := by kernel_rfl
theorem cl82 : callable Try.prog 82 = true := by kernel_rfl
theorem cl83 : callable Try.prog 83 = true := by kernel_rfl
theorem cl84 : callable Try.prog 84 = true := by kernel_rfl
theorem cl92 : callable Try.prog 92 = true := by kernel_rfl
theorem cl93 : callable Try.prog 93 = true := by kernel_rfl
theorem cl94 : callable Try.prog 94 = true := by kernel_rfl
theorem cl95 : callable Try.prog 95 = true := by kernel_rfl
theorem cl96 : callable Try.prog 96 = true := by kernel_rfl
theorem cl98 : callable Try.prog 98 = true := by kernel_rfl
theorem fd107_0 : fldTy Try.prog 107 0 = some (0, 0 + 1, false) := by kernel_rfl
theorem fd107_1 : fldTy Try.prog 107 1 = some (1, 0 + 1, false) := by kernel_rfl
theorem fd107_2 : fldTy Try.prog 107 2 = some (2, 0 + 1, false) := by kernel_rfl
theorem fd36_0 : fldTy Try.prog 36 0 = some (0, 0 + 1, false) := by kernel_rfl
theorem fd36_1 : fldTy Try.prog 36 1 = some (1, 0 + 1, false) := by kernel_rfl
theorem fd36_2 : fldTy Try.prog 36 2 = some (2, 0 + 1, false) := by kernel_rfl
theorem fd36_3 : fldTy Try.prog 36 3 = some (3, 0 + 1, false) := by kernel_rfl
theorem fd36_4 : fldTy Try.prog 36 4 = some (4, 0 + 1, false) := by kernel_rfl
theorem fd36_5 : fldTy Try.prog 36 5 = some (5, 0 + 1, false) := by kernel_rfl
theorem fd70_0 : fldTy Try.prog 70 0 = some (0, 0 + 1, false) := by kernel_rfl
theorem fd70_1 : fldTy Try.prog 70 1 = some (1, 0 + 1, false) := by kernel_rfl
theorem fk36 : flatK Try.prog 36 = some [2, 1, 1, 1, 2, 2] := by kernel_rfl
theorem fk70 : flatK Try.prog 70 = some [2, 1] := by kernel_rfl
theorem ik3 : intK Try.prog 3 = some .i64 := by kernel_rfl
theorem ik5 : intK Try.prog 5 = some .u8 := by kernel_rfl
theorem sl27 : slTy Try.prog 27 = some (36, 6, 72) := by kernel_rfl
theorem sl49 : slTy Try.prog 49 = some (3, 1, 8) := by kernel_rfl
theorem sl54 : slTy Try.prog 54 = some (9, 1, 16) := by kernel_rfl
theorem sl58 : slTy Try.prog 58 = some (70, 2, 24) := by kernel_rfl
theorem sl62 : slTy Try.prog 62 = some (5, 1, 1) := by kernel_rfl
theorem stc107 : strTy Try.prog 107 = some ([(0, 1), (1, 1), (2, 1)], [.slice none 0 0, .int .i64 0, .int .i64 0]) := by kernel_rfl
theorem stc36 : strTy Try.prog 36 = some ([(0, 1), (1, 1), (2, 1), (3, 1), (4, 1), (5, 1)], [.string ⟨#[]⟩, .int .i64 0, .int .i64 0, .int .i64 0, .string ⟨#[]⟩, .string ⟨#[]⟩]) := by kernel_rfl
theorem stc70 : strTy Try.prog 70 = some ([(0, 1), (1, 1)], [.string ⟨#[]⟩, .int .i64 0]) := by kernel_rfl
theorem ty3 : tyK Try.prog 3 = some (false, 1) := by kernel_rfl
theorem ty36 : tyK Try.prog 36 = some (true, 6) := by kernel_rfl
theorem ty5 : tyK Try.prog 5 = some (false, 1) := by kernel_rfl
theorem ty62 : tyK Try.prog 62 = some (false, 1) := by kernel_rfl
theorem ty70 : tyK Try.prog 70 = some (true, 2) := by kernel_rfl
theorem ty9 : tyK Try.prog 9 = some (false, 1) := by kernel_rfl
theorem zc3 : zeroC Try.prog 3 = some [.int .i64 0] := by kernel_rfl
theorem zc36 : zeroC Try.prog 36 = some [.string ⟨#[]⟩, .int .i64 0, .int .i64 0, .int .i64 0, .string ⟨#[]⟩, .string ⟨#[]⟩] := by kernel_rfl
theorem zc70 : zeroC Try.prog 70 = some [.string ⟨#[]⟩, .int .i64 0] := by kernel_rfl
theorem zc9 : zeroC Try.prog 9 = some [.string ⟨#[]⟩] := by kernel_rfl
theorem mixed : Try.prog.follows .mixedOrders = true := by kernel_rfl
/- laws.big -/

set_option maxRecDepth 4000 in
set_option maxHeartbeats 800000 in
theorem ww_big (p0 : List Int) (r0 : Bool) (h : w_big p0 = some r0) : Runs Try.prog 53 [.lst 1 (List.map byteV p0)] [] (.sc (.bool r0)) [] := by
  unfold w_big at h
  refine runsR [.tmp 2] Try.func53 rfl rfl rfl rfl ?_
  rw [Try.ntmps53]
  refine tri_seq ?_
  refine tri_region ?_
  refine s_mv (.inr rfl) (v := .sc (.bool false)) rfl rfl rfl rfl ?_
  refine rt_nil ?_
  refine tri_seq ?_
  refine tri_region ?_
  refine s_mv (.inl rfl) (by conv => lhs; whnf) rfl rfl rfl ?_
  refine s_lenL rfl sl62 rfl rfl rfl rfl ?_
  refine s_of (st_gtr rfl rfl rfl) rfl rfl rfl rfl ?_
  refine s_mv (.inr rfl) (by conv => lhs; whnf) rfl rfl rfl ?_
  refine rt_nil ?_
  refine tri_ret ?_
  have e0 := (some1 h); subst e0
  exact endY [] [] (rvC (resTmp rfl) rvN) trivial trivial rfl rfl rfl rfl (.free rfl)

/- spec.l1New -/
def inv_s_l1New_2 (p0 : List Int) (v1_0 : Int) (v1_1 : Int) (j2_0 : Bool) : St := mkT 32 [(0, .lst 1 (List.map byteV p0)), (3, .sc (.int .i64 v1_0)), (4, .sc (.int .i64 v1_1)), (15, .sc (.bool j2_0))] []
def inv_s_l1New_1 (p0 : List Int) (v1_0 : Int) (v1_1 : Int) : St := mkT 32 [(0, .lst 1 (List.map byteV p0)), (3, .sc (.int .i64 v1_0)), (4, .sc (.int .i64 v1_1))] []
def inv_s_l1New_0 (p0 : List Int) (j0_0 : Int) : St := mkT 32 [(0, .lst 1 (List.map byteV p0)), (3, .sc (.int .i64 j0_0))] []
set_option maxRecDepth 4000 in
set_option maxHeartbeats 800000 in
theorem ws_l1New (p0 : List Int) (r0 : Cur) (h : s_l1New p0 = some r0) : Runs Try.prog 80 [.lst 1 (List.map byteV p0)] [] (.obox 107 (curV r0)) [] := by
  unfold s_l1New at h
  refine runsR [.tmp 2] Try.func80 rfl rfl rfl rfl ?_
  rw [Try.ntmps80]
  refine tri_seq ?_
  refine tri_region ?_
  refine s_mv (.inr rfl) (v := .sc (.pointer none)) rfl rfl rfl rfl ?_
  refine rt_nil ?_
  refine tri_seq ?_
  refine tri_region ?_
  refine s_mv (.inl rfl) (by conv => lhs; whnf) rfl rfl rfl ?_
  refine s_lenL rfl sl62 rfl rfl rfl rfl ?_
  refine s_of (st_add rfl rfl rfl) rfl rfl rfl rfl ?_
  refine s_mv (.inr rfl) (by conv => lhs; whnf) rfl rfl rfl ?_
  refine rt_nil ?_
  refine tri_cutI (ι := { p : Int // s_l1New_j0 p0 p = some r0 }) (fun p => inv_s_l1New_0 p0 p.1) ?_ ?_
  · skip
    refine tri_seq ?_
    refine tri_region ?_
    refine s_mv (.inr rfl) (v := .sc (.int .i64 0)) rfl rfl rfl rfl ?_
    refine rt_nil ?_
    refine tri_block ?_
    refine tri_loop (ι := { p : Nat × Int × Int // s_l1New_l1 p0 p.1 p.2.1 p.2.2 = some r0 }) (fun p => inv_s_l1New_1 p0 p.1.2.1 p.1.2.2) (fun p => p.1.1) ⟨(fuel0, IntKind.i64.wrap (160909 + (p0.length : Int)), 0), h⟩ ?_ ?_
    · skip
      refine entX [] [] trivial trivial rfl rfl ?_
      exact ⟨(.free rfl), (.free rfl), (.free rfl), trivial⟩
    · rintro ⟨⟨f1, v1_0, v1_1⟩, h⟩
      replace h : s_l1New_l1 p0 f1 v1_0 v1_1 = some r0 := h
      cases f1 with
      | zero => cases h
      | succ f1 =>
      rw [s_l1New_l1] at h
      show Tri _ _ _ (inv_s_l1New_1 p0 v1_0 v1_1)
      refine tri_seq ?_
      refine tri_cutI (ι := { p : Bool // s_l1New_j2 p0 v1_0 v1_1 (s_l1New_l1 p0 f1) p = some r0 }) (fun p => inv_s_l1New_2 p0 v1_0 v1_1 p.1) ?_ ?_
      · skip
        refine tri_region ?_
        refine s_mv (.inl rfl) (by conv => lhs; whnf) rfl rfl rfl ?_
        refine s_mv (.inl rfl) (by conv => lhs; whnf) rfl rfl rfl ?_
        refine s_lenL rfl sl62 rfl rfl rfl rfl ?_
        refine s_of (st_lss rfl rfl rfl) rfl rfl rfl rfl ?_
        refine s_mv (.inl rfl) (by conv => lhs; whnf) rfl rfl rfl ?_
        refine s_split (t := 12) rfl (fun b1 => ?_) (fun b1 => ?_)
        · replace h := cond_t h b1
          refine s_mv (.inl rfl) (by conv => lhs; whnf) rfl rfl rfl ?_
          refine s_of (st_lss rfl rfl rfl) rfl rfl rfl rfl ?_
          refine s_pickT rfl rfl (by conv => lhs; whnf) rfl rfl rfl ?_
          refine rt_nil ?_
          refine Exists.intro ⟨decide (v1_1 < 4000), h⟩ ?_
          refine entX [] [] trivial trivial rfl rfl ?_
          exact ⟨(.free rfl), (.free rfl), (.free rfl), (.free rfl), trivial⟩
        · replace h := cond_f h b1
          refine s_skip rfl rfl rfl ?_
          refine s_skip rfl rfl rfl ?_
          refine s_pickF rfl rfl (v := .sc (.bool false)) rfl rfl rfl rfl ?_
          refine rt_nil ?_
          refine Exists.intro ⟨false, h⟩ ?_
          refine entX [] [] trivial trivial rfl rfl ?_
          exact ⟨(.free rfl), (.free rfl), (.free rfl), (.free rfl), trivial⟩
      · rintro ⟨j2_0, h⟩
        replace h : s_l1New_j2 p0 v1_0 v1_1 (s_l1New_l1 p0 f1) j2_0 = some r0 := h
        unfold s_l1New_j2 at h
        show Tri _ _ _ (inv_s_l1New_2 p0 v1_0 v1_1 j2_0)
        refine tri_cond rfl (fun c1 => ?_) (fun c1 => ?_)
        · replace h := cond_t h c1
          refine tri_skip ?_
          refine tri_seq ?_
          refine tri_block ?_
          refine tri_region ?_
          refine s_mv (.inl rfl) (by conv => lhs; whnf) rfl rfl rfl ?_
          refine s_of (st_mul rfl rfl rfl) rfl rfl rfl rfl ?_
          refine s_mv (.inl rfl) (by conv => lhs; whnf) rfl rfl rfl ?_
          refine s_mv (.inl rfl) (by conv => lhs; whnf) rfl rfl rfl ?_
          refine bnd1_elim h fun x2 q3 h => ?_
          have q3a := (idx_some q3).1; have q3b := (idx_some q3).2
          refine s_indexFZ rfl rfl rfl sl62 q3a (get_ltM q3b) rfl rfl rfl ?_
          refine s_loadF rfl rfl (rowG q3b) ty5 rfl (.inr rfl) (by conv => lhs; whnf) rfl rfl rfl ?_
          refine s_of (st_conv ik5 ik3 rfl rfl) rfl rfl rfl rfl ?_
          refine s_of (st_add rfl rfl rfl) rfl rfl rfl rfl ?_
          refine s_of (st_add rfl rfl rfl) rfl rfl rfl rfl ?_
          refine s_of (st_andD rfl rfl rfl) rfl rfl rfl rfl ?_
          refine s_mv (.inr rfl) (by conv => lhs; whnf) rfl rfl rfl ?_
          refine rt_nil ?_
          refine tri_region ?_
          refine s_mv (.inl rfl) (by conv => lhs; whnf) rfl rfl rfl ?_
          refine s_of (st_add rfl rfl rfl) rfl rfl rfl rfl ?_
          refine s_mv (.inr rfl) (by conv => lhs; whnf) rfl rfl rfl ?_
          refine rt_nil ?_
          refine Exists.intro ⟨(f1, iand .i64 (IntKind.i64.wrap ((IntKind.i64.wrap ((IntKind.i64.wrap (v1_0 * 137)) + (IntKind.i64.wrap x2))) + 11)) 1073741823, IntKind.i64.wrap (v1_1 + 1)), h⟩ (And.intro (Nat.lt_succ_self _) ?_)
          refine entX [] [] trivial trivial rfl rfl ?_
          exact ⟨(.free rfl), (.free rfl), (.free rfl), trivial⟩
        · replace h := cond_f h c1
          refine tri_exit ?_
          refine Exists.intro ⟨v1_0, h⟩ ?_
          refine entX [] [] trivial trivial rfl rfl ?_
          exact ⟨(.free rfl), (.free rfl), trivial⟩
  · rintro ⟨j0_0, h⟩
    replace h : s_l1New_j0 p0 j0_0 = some r0 := h
    unfold s_l1New_j0 at h
    show Tri _ _ _ (inv_s_l1New_0 p0 j0_0)
    refine tri_seq ?_
    refine tri_region ?_
    refine s_mv (.inl rfl) (by conv => lhs; whnf) rfl rfl rfl ?_
    refine s_mv (.inl rfl) (by conv => lhs; whnf) rfl rfl rfl ?_
    refine s_build (cells' := [.lst 1 (List.map byteV p0), .sc (.int .i64 0), .sc (.int .i64 j0_0)]) rfl stc107 rfl rfl rfl rfl rfl rfl rfl ?_
    refine s_box rfl rfl rfl rfl rfl rfl rfl ?_
    refine s_mv (.inr rfl) (by conv => lhs; whnf) rfl rfl rfl ?_
    refine rt_nil ?_
    refine tri_ret ?_
    have e0 := (some1 h); subst e0
    exact endY (v' := .ptr (2000, 0) 0 0) [((2000, 0), ⟨107, 3, [[.lst 1 (List.map byteV p0), .sc (.int .i64 0), .sc (.int .i64 j0_0)]], false, true⟩, some (31, 0))] [] (rvC (resTmp rfl) rvN) ⟨⟨rfl, _, rfl, rfl, rfl, rfl, id, rowsCv_one (.cons (.free rfl) (.cons (.free rfl) (.cons (.free rfl) .nil))), rowsZ_one rfl⟩, trivial⟩ trivial rfl rfl (by kernel_rfl) (by simp only [V.mat, V.mat1, V.mat0, matL, matT, List.length_map]) (.ptr rfl)

/- spec.l1Byte -/

set_option maxRecDepth 4000 in
set_option maxHeartbeats 800000 in
theorem ws_l1Byte (p0 : Cur) (r0 : Int) (r1 : Cur) (h : s_l1Byte p0 = some (r0, r1)) : Runs Try.prog 96 [.ptr (1000, 0) 0 0] [⟨107, 3, [[.lst 1 (List.map byteV p0.b), .sc (.int .i64 p0.i), .sc (.int .i64 p0.h)]], false, false⟩] (.sc (.int .i64 r0)) [⟨107, 3, [[.lst 1 (List.map byteV r1.b), .sc (.int .i64 r1.i), .sc (.int .i64 r1.h)]], false, false⟩] := by
  unfold s_l1Byte at h
  refine runsR [.tmp 2] Try.func96 rfl rfl rfl rfl ?_
  rw [Try.ntmps96]
  refine tri_seq ?_
  refine tri_region ?_
  refine s_mv (.inr rfl) (v := .sc (.int .i64 0)) rfl rfl rfl rfl ?_
  refine rt_nil ?_
  refine tri_seq ?_
  refine tri_region ?_
  refine s_mv (.inl rfl) (by conv => lhs; whnf) rfl rfl rfl ?_
  refine s_mv (.inl rfl) (by conv => lhs; whnf) rfl rfl rfl ?_
  refine s_nilCheck rfl (by conv => lhs; whnf) (.inl ⟨_, _, _, rfl⟩) rfl rfl rfl ?_
  refine s_fieldAddr rfl rfl fd107_2 rfl rfl rfl rfl ?_
  refine s_load rfl rfl rfl rfl ty3 rfl (.inr rfl) (by conv => lhs; whnf) rfl rfl rfl ?_
  refine s_of (st_mul rfl rfl rfl) rfl rfl rfl rfl ?_
  refine s_of (st_add rfl rfl rfl) rfl rfl rfl rfl ?_
  refine s_nilCheck rfl (by conv => lhs; whnf) (.inl ⟨_, _, _, rfl⟩) rfl rfl rfl ?_
  refine s_fieldAddr rfl rfl fd107_2 rfl rfl rfl rfl ?_
  refine s_store (rows' := [[.lst 1 (List.map byteV p0.b), .sc (.int .i64 p0.i), .sc (.int .i64 (IntKind.i64.wrap ((IntKind.i64.wrap (p0.h * 6364136223846793005)) + 1442695040888963407)))]]) rfl rfl rfl rfl ty3 rfl rfl rfl rfl rfl rfl ?_
  refine rt_nil ?_
  refine tri_seq ?_
  refine tri_draw mixed ?_
  refine s_mv (.inl rfl) (by conv => lhs; whnf) rfl rfl rfl ?_
  refine s_nilCheck rfl (by conv => lhs; whnf) (.inl ⟨_, _, _, rfl⟩) rfl rfl rfl ?_
  refine s_fieldAddr rfl rfl fd107_2 rfl rfl rfl rfl ?_
  refine s_load rfl rfl rfl rfl ty3 rfl (.inr rfl) (by conv => lhs; whnf) rfl rfl rfl ?_
  refine s_of (st_shrD (b := 33) rfl rfl rfl) rfl rfl rfl rfl ?_
  refine s_mv (.inl rfl) (by conv => lhs; whnf) rfl rfl rfl ?_
  refine s_nilCheck rfl (by conv => lhs; whnf) (.inl ⟨_, _, _, rfl⟩) rfl rfl rfl ?_
  refine s_fieldAddr rfl rfl fd107_2 rfl rfl rfl rfl ?_
  refine s_load rfl rfl rfl rfl ty3 rfl (.inr rfl) (by conv => lhs; whnf) rfl rfl rfl ?_
  refine s_of (st_shrD (b := 47) rfl rfl rfl) rfl rfl rfl rfl ?_
  refine s_of (st_xorD rfl rfl rfl) rfl rfl rfl rfl ?_
  refine s_of (st_andD rfl rfl rfl) rfl rfl rfl rfl ?_
  refine s_mv (.inr rfl) (by conv => lhs; whnf) rfl rfl rfl ?_
  refine rt_nil ⟨by kernel_rfl, ?_⟩
  refine tri_seq ?_
  refine tri_seq ?_
  refine tri_draw mixed ?_
  refine s_mv (.inl rfl) (by conv => lhs; whnf) rfl rfl rfl ?_
  refine s_nilCheck rfl (by conv => lhs; whnf) (.inl ⟨_, _, _, rfl⟩) rfl rfl rfl ?_
  refine s_fieldAddr rfl rfl fd107_1 rfl rfl rfl rfl ?_
  refine s_load rfl rfl rfl rfl ty3 rfl (.inr rfl) (by conv => lhs; whnf) rfl rfl rfl ?_
  refine s_mv (.inl rfl) (by conv => lhs; whnf) rfl rfl rfl ?_
  refine s_nilCheck rfl (by conv => lhs; whnf) (.inl ⟨_, _, _, rfl⟩) rfl rfl rfl ?_
  refine s_fieldAddr rfl rfl fd107_0 rfl rfl rfl rfl ?_
  refine s_load rfl rfl rfl rfl ty62 rfl (.inr rfl) (by conv => lhs; whnf) rfl rfl rfl ?_
  refine s_lenL rfl sl62 rfl rfl rfl rfl ?_
  refine s_of (st_lss rfl rfl rfl) rfl rfl rfl rfl ?_
  refine rt_nil ⟨by kernel_rfl, ?_⟩
  refine tri_cond rfl (fun c1 => ?_) (fun c1 => ?_)
  · replace h := cond_t h c1
    refine tri_seq ?_
    refine tri_draw mixed ?_
    refine s_mv (.inl rfl) (by conv => lhs; whnf) rfl rfl rfl ?_
    refine s_mv (.inl rfl) (by conv => lhs; whnf) rfl rfl rfl ?_
    refine s_nilCheck rfl (by conv => lhs; whnf) (.inl ⟨_, _, _, rfl⟩) rfl rfl rfl ?_
    refine s_fieldAddr rfl rfl fd107_0 rfl rfl rfl rfl ?_
    refine s_load rfl rfl rfl rfl ty62 rfl (.inr rfl) (by conv => lhs; whnf) rfl rfl rfl ?_
    refine s_mv (.inl rfl) (by conv => lhs; whnf) rfl rfl rfl ?_
    refine s_nilCheck rfl (by conv => lhs; whnf) (.inl ⟨_, _, _, rfl⟩) rfl rfl rfl ?_
    refine s_fieldAddr rfl rfl fd107_1 rfl rfl rfl rfl ?_
    refine s_load rfl rfl rfl rfl ty3 rfl (.inr rfl) (by conv => lhs; whnf) rfl rfl rfl ?_
    refine bnd1_elim h fun x2 q3 h => ?_
    have q3a := (idx_some q3).1; have q3b := (idx_some q3).2
    refine s_indexFZ rfl rfl rfl sl62 q3a (get_ltM q3b) rfl rfl rfl ?_
    refine s_loadF rfl rfl (rowG q3b) ty5 rfl (.inr rfl) (by conv => lhs; whnf) rfl rfl rfl ?_
    refine s_of (st_conv ik5 ik3 rfl rfl) rfl rfl rfl rfl ?_
    refine s_of (st_add rfl rfl rfl) rfl rfl rfl rfl ?_
    refine s_of (st_andD rfl rfl rfl) rfl rfl rfl rfl ?_
    refine s_mv (.inr rfl) (by conv => lhs; whnf) rfl rfl rfl ?_
    refine rt_nil ⟨by kernel_rfl, ?_⟩
    refine tri_region ?_
    refine s_mv (.inl rfl) (by conv => lhs; whnf) rfl rfl rfl ?_
    refine s_mv (.inl rfl) (by conv => lhs; whnf) rfl rfl rfl ?_
    refine s_nilCheck rfl (by conv => lhs; whnf) (.inl ⟨_, _, _, rfl⟩) rfl rfl rfl ?_
    refine s_fieldAddr rfl rfl fd107_1 rfl rfl rfl rfl ?_
    refine s_load rfl rfl rfl rfl ty3 rfl (.inr rfl) (by conv => lhs; whnf) rfl rfl rfl ?_
    refine s_of (st_add rfl rfl rfl) rfl rfl rfl rfl ?_
    refine s_nilCheck rfl (by conv => lhs; whnf) (.inl ⟨_, _, _, rfl⟩) rfl rfl rfl ?_
    refine s_fieldAddr rfl rfl fd107_1 rfl rfl rfl rfl ?_
    refine s_store (rows' := [[.lst 1 (List.map byteV p0.b), .sc (.int .i64 (IntKind.i64.wrap (p0.i + 1))), .sc (.int .i64 (IntKind.i64.wrap ((IntKind.i64.wrap (p0.h * 6364136223846793005)) + 1442695040888963407)))]]) rfl rfl rfl rfl ty3 rfl rfl rfl rfl rfl rfl ?_
    refine rt_nil ?_
    refine tri_seq ?_
    refine tri_region ?_
    refine s_mv (.inl rfl) (by conv => lhs; whnf) rfl rfl rfl ?_
    refine s_mv (.inr rfl) (by conv => lhs; whnf) rfl rfl rfl ?_
    refine rt_nil ?_
    refine tri_ret ?_
    have e0 := (some2 h).1; have e1 := (some2 h).2; subst e0; subst e1
    exact endY [((1000, 0), ⟨107, 3, [[.lst 1 (List.map byteV p0.b), .sc (.int .i64 (IntKind.i64.wrap (p0.i + 1))), .sc (.int .i64 (IntKind.i64.wrap ((IntKind.i64.wrap (p0.h * 6364136223846793005)) + 1442695040888963407)))]], false, false⟩, some (1000, 0))] [] (rvC (resTmp rfl) rvN) ⟨⟨rfl, _, rfl, rfl, rfl, rfl, id, rowsCv_one (.cons (.free rfl) (.cons (.free rfl) (.cons (.free rfl) .nil))), rowsZ_one rfl⟩, trivial⟩ trivial rfl rfl (by kernel_rfl) rfl (.free rfl)
  · replace h := cond_f h c1
    refine tri_skip ?_
    refine tri_seq ?_
    refine tri_region ?_
    refine s_mv (.inl rfl) (by conv => lhs; whnf) rfl rfl rfl ?_
    refine s_mv (.inr rfl) (by conv => lhs; whnf) rfl rfl rfl ?_
    refine rt_nil ?_
    refine tri_ret ?_
    have e0 := (some2 h).1; have e1 := (some2 h).2; subst e0; subst e1
    exact endY [((1000, 0), ⟨107, 3, [[.lst 1 (List.map byteV p0.b), .sc (.int .i64 p0.i), .sc (.int .i64 (IntKind.i64.wrap ((IntKind.i64.wrap (p0.h * 6364136223846793005)) + 1442695040888963407)))]], false, false⟩, some (1000, 0))] [] (rvC (resTmp rfl) rvN) ⟨⟨rfl, _, rfl, rfl, rfl, rfl, id, rowsCv_one (.cons (.free rfl) (.cons (.free rfl) (.cons (.free rfl) .nil))), rowsZ_one rfl⟩, trivial⟩ trivial rfl rfl (by kernel_rfl) rfl (.free rfl)

/- spec.l1Below -/

set_option maxRecDepth 4000 in
set_option maxHeartbeats 800000 in
theorem ws_l1Below (p0 : Cur) (p1 : Int) (r0 : Int) (r1 : Cur) (h : s_l1Below p0 p1 = some (r0, r1)) : Runs Try.prog 84 [.ptr (1000, 0) 0 0, .sc (.int .i64 p1)] [⟨107, 3, [[.lst 1 (List.map byteV p0.b), .sc (.int .i64 p0.i), .sc (.int .i64 p0.h)]], false, false⟩] (.sc (.int .i64 r0)) [⟨107, 3, [[.lst 1 (List.map byteV r1.b), .sc (.int .i64 r1.i), .sc (.int .i64 r1.h)]], false, false⟩] := by
  unfold s_l1Below at h
  refine runsR [.tmp 4] Try.func84 rfl rfl rfl rfl ?_
  rw [Try.ntmps84]
  refine tri_seq ?_
  refine tri_region ?_
  refine s_mv (.inr rfl) (v := .sc (.int .i64 0)) rfl rfl rfl rfl ?_
  refine rt_nil ?_
  refine tri_seq ?_
  refine tri_seq ?_
  refine tri_region ?_
  refine s_mv (.inl rfl) (by conv => lhs; whnf) rfl rfl rfl ?_
  refine s_of (st_leq rfl rfl rfl) rfl rfl rfl rfl ?_
  refine rt_nil ?_
  refine tri_cond rfl (fun c1 => ?_) (fun c1 => ?_)
  · replace h := cond_t h c1
    refine tri_seq ?_
    refine tri_region ?_
    refine s_mv (.inr rfl) (v := .sc (.int .i64 0)) rfl rfl rfl rfl ?_
    refine rt_nil ?_
    refine tri_ret ?_
    have e0 := (some2 h).1; have e1 := (some2 h).2; subst e0; subst e1
    exact endY [((1000, 0), ⟨107, 3, [[.lst 1 (List.map byteV p0.b), .sc (.int .i64 p0.i), .sc (.int .i64 p0.h)]], false, false⟩, some (1000, 0))] [] (rvC (resTmp rfl) rvN) ⟨⟨rfl, _, rfl, rfl, rfl, rfl, id, rowsCv_one (.cons (.free rfl) (.cons (.free rfl) (.cons (.free rfl) .nil))), rowsZ_one rfl⟩, trivial⟩ trivial rfl rfl (by kernel_rfl) rfl (.free rfl)
  · replace h := cond_f h c1
    refine tri_skip ?_
    refine tri_seq ?_
    refine tri_seq ?_
    refine tri_region ?_
    refine s_mv (.inl rfl) (by conv => lhs; whnf) rfl rfl rfl ?_
    refine s_of (st_leq rfl rfl rfl) rfl rfl rfl rfl ?_
    refine rt_nil ?_
    refine tri_cond rfl (fun c2 => ?_) (fun c2 => ?_)
    · replace h := cond_t h c2
      refine tri_seq ?_
      refine tri_region ?_
      refine s_mv (.inl rfl) (by conv => lhs; whnf) rfl rfl rfl ?_
      refine bnd2_elim h fun x3 x4 q5 h => ?_
      refine s_callZ (kb := []) (ns := [(1000, 0)]) (v := .sc (.int .i64 x3)) rfl rfl cl96 (ws_l1Byte p0 x3 x4 q5) rfl (.cons (.ptrOwn rfl) .nil) ⟨⟨_, rfl, rfl⟩, trivial⟩ (memCons (allFree_one rfl) memNil) (List.nodup_cons.2 ⟨List.not_mem_nil, .nil⟩) memNil trivial rfl trivial (memCons (allFree_one rfl) memNil) rfl rfl rfl rfl rfl rfl ?_
      refine s_mv (.inl rfl) (by conv => lhs; whnf) rfl rfl rfl ?_
      refine grd_elim h fun g6 h => ?_
      refine s_of (st_rem rfl rfl rfl g6) rfl rfl rfl rfl ?_
      refine s_mv (.inr rfl) (by conv => lhs; whnf) rfl rfl rfl ?_
      refine rt_nil ?_
      refine tri_ret ?_
      have e0 := (some2 h).1; have e1 := (some2 h).2; subst e0; subst e1
      exact endY [((1000, 0), ⟨107, 3, [[.lst 1 (List.map byteV x4.b), .sc (.int .i64 x4.i), .sc (.int .i64 x4.h)]], false, false⟩, some (1000, 0))] [] (rvC (resTmp rfl) rvN) ⟨⟨rfl, _, rfl, rfl, rfl, rfl, id, rowsCv_one (.cons (.free rfl) (.cons (.free rfl) (.cons (.free rfl) .nil))), rowsZ_one rfl⟩, trivial⟩ trivial rfl rfl (by kernel_rfl) rfl (.free rfl)
    · replace h := cond_f h c2
      refine tri_skip ?_
      refine tri_seq ?_
      refine tri_region ?_
      refine s_mv (.inl rfl) (by conv => lhs; whnf) rfl rfl rfl ?_
      refine bnd2_elim h fun x7 x8 q9 h => ?_
      refine s_callZ (kb := []) (ns := [(1000, 0)]) (v := .sc (.int .i64 x7)) rfl rfl cl96 (ws_l1Byte p0 x7 x8 q9) rfl (.cons (.ptrOwn rfl) .nil) ⟨⟨_, rfl, rfl⟩, trivial⟩ (memCons (allFree_one rfl) memNil) (List.nodup_cons.2 ⟨List.not_mem_nil, .nil⟩) memNil trivial rfl trivial (memCons (allFree_one rfl) memNil) rfl rfl rfl rfl rfl rfl ?_
      refine s_mv (.inr rfl) (by conv => lhs; whnf) rfl rfl rfl ?_
      refine rt_nil ?_
      refine tri_seq ?_
      refine tri_region ?_
      refine s_mv (.inl rfl) (by conv => lhs; whnf) rfl rfl rfl ?_
      refine bnd2_elim h fun x10 x11 q12 h => ?_
      refine s_callZ (kb := []) (ns := [(1000, 0)]) (v := .sc (.int .i64 x10)) rfl rfl cl96 (ws_l1Byte x8 x10 x11 q12) rfl (.cons (.ptrOwn rfl) .nil) ⟨⟨_, rfl, rfl⟩, trivial⟩ (memCons (allFree_one rfl) memNil) (List.nodup_cons.2 ⟨List.not_mem_nil, .nil⟩) memNil trivial rfl trivial (memCons (allFree_one rfl) memNil) rfl rfl rfl rfl rfl rfl ?_
      refine s_mv (.inr rfl) (by conv => lhs; whnf) rfl rfl rfl ?_
      refine rt_nil ?_
      refine tri_seq ?_
      refine tri_region ?_
      refine s_mv (.inl rfl) (by conv => lhs; whnf) rfl rfl rfl ?_
      refine bnd2_elim h fun x13 x14 q15 h => ?_
      refine s_callZ (kb := []) (ns := [(1000, 0)]) (v := .sc (.int .i64 x13)) rfl rfl cl96 (ws_l1Byte x11 x13 x14 q15) rfl (.cons (.ptrOwn rfl) .nil) ⟨⟨_, rfl, rfl⟩, trivial⟩ (memCons (allFree_one rfl) memNil) (List.nodup_cons.2 ⟨List.not_mem_nil, .nil⟩) memNil trivial rfl trivial (memCons (allFree_one rfl) memNil) rfl rfl rfl rfl rfl rfl ?_
      refine s_mv (.inr rfl) (by conv => lhs; whnf) rfl rfl rfl ?_
      refine rt_nil ?_
      refine tri_seq ?_
      refine tri_region ?_
      refine s_mv (.inl rfl) (by conv => lhs; whnf) rfl rfl rfl ?_
      refine grd_elim h fun g16 h => ?_
      refine s_mulI rfl rfl rfl rfl g16 rfl rfl rfl ?_
      refine s_mv (.inl rfl) (by conv => lhs; whnf) rfl rfl rfl ?_
      refine grd_elim h fun g17 h => ?_
      refine s_mulI rfl rfl rfl rfl g17 rfl rfl rfl ?_
      refine grd_elim h fun g18 h => ?_
      refine s_addI rfl rfl rfl rfl g18 rfl rfl rfl ?_
      refine s_mv (.inl rfl) (by conv => lhs; whnf) rfl rfl rfl ?_
      refine grd_elim h fun g19 h => ?_
      refine s_addI rfl rfl rfl rfl g19 rfl rfl rfl ?_
      refine s_mv (.inl rfl) (by conv => lhs; whnf) rfl rfl rfl ?_
      refine grd_elim h fun g20 h => ?_
      refine s_of (st_rem rfl rfl rfl g20) rfl rfl rfl rfl ?_
      refine s_mv (.inr rfl) (by conv => lhs; whnf) rfl rfl rfl ?_
      refine rt_nil ?_
      refine tri_ret ?_
      have e0 := (some2 h).1; have e1 := (some2 h).2; subst e0; subst e1
      exact endY [((1000, 0), ⟨107, 3, [[.lst 1 (List.map byteV x14.b), .sc (.int .i64 x14.i), .sc (.int .i64 x14.h)]], false, false⟩, some (1000, 0))] [] (rvC (resTmp rfl) rvN) ⟨⟨rfl, _, rfl, rfl, rfl, rfl, id, rowsCv_one (.cons (.free rfl) (.cons (.free rfl) (.cons (.free rfl) .nil))), rowsZ_one rfl⟩, trivial⟩ trivial rfl rfl (by kernel_rfl) rfl (.free rfl)

/- spec.l1Str -/

set_option maxRecDepth 4000 in
set_option maxHeartbeats 800000 in
theorem ws_l1Str (p0 : Cur) (p1 : List ByteArray) (r0 : ByteArray) (r1 : Cur) (h : s_l1Str p0 p1 = some (r0, r1)) : Runs Try.prog 82 [.ptr (1000, 0) 0 0, .lst 1 (List.map strV p1)] [⟨107, 3, [[.lst 1 (List.map byteV p0.b), .sc (.int .i64 p0.i), .sc (.int .i64 p0.h)]], false, false⟩] (.sc (.string r0)) [⟨107, 3, [[.lst 1 (List.map byteV r1.b), .sc (.int .i64 r1.i), .sc (.int .i64 r1.h)]], false, false⟩] := by
  unfold s_l1Str at h
  refine runsR [.tmp 4] Try.func82 rfl rfl rfl rfl ?_
  rw [Try.ntmps82]
  refine tri_seq ?_
  refine tri_region ?_
  refine s_mv (.inr rfl) (v := .sc (.string (⟨#[]⟩ : ByteArray))) rfl rfl rfl rfl ?_
  refine rt_nil ?_
  refine tri_seq ?_
  refine tri_region ?_
  refine s_mv (.inl rfl) (by conv => lhs; whnf) rfl rfl rfl ?_
  refine s_mv (.inl rfl) (by conv => lhs; whnf) rfl rfl rfl ?_
  refine s_mv (.inl rfl) (by conv => lhs; whnf) rfl rfl rfl ?_
  refine s_lenL rfl sl54 rfl rfl rfl rfl ?_
  refine bnd2_elim h fun x1 x2 q3 h => ?_
  refine s_callZ (kb := []) (ns := [(1000, 0)]) (v := .sc (.int .i64 x1)) rfl rfl cl84 (ws_l1Below p0 (p1.length : Int) x1 x2 q3) rfl (.cons (.ptrOwn rfl) (.cons (.free rfl) .nil)) ⟨⟨_, rfl, rfl⟩, trivial⟩ (memCons (allFree_one rfl) memNil) (List.nodup_cons.2 ⟨List.not_mem_nil, .nil⟩) memNil trivial rfl trivial (memCons (allFree_one rfl) memNil) rfl rfl rfl rfl rfl rfl ?_
  refine bnd1_elim h fun x4 q5 h => ?_
  have q5a := (idx_some q5).1; have q5b := (idx_some q5).2
  refine s_indexFZ rfl rfl rfl sl54 q5a (get_ltM q5b) rfl rfl rfl ?_
  refine s_loadF rfl rfl (rowG q5b) ty9 rfl (.inr rfl) (by conv => lhs; whnf) rfl rfl rfl ?_
  refine s_mv (.inr rfl) (by conv => lhs; whnf) rfl rfl rfl ?_
  refine rt_nil ?_
  refine tri_ret ?_
  have e0 := (some2 h).1; have e1 := (some2 h).2; subst e0; subst e1
  exact endY [((1000, 0), ⟨107, 3, [[.lst 1 (List.map byteV x2.b), .sc (.int .i64 x2.i), .sc (.int .i64 x2.h)]], false, false⟩, some (1000, 0))] [] (rvC (resTmp rfl) rvN) ⟨⟨rfl, _, rfl, rfl, rfl, rfl, id, rowsCv_one (.cons (.free rfl) (.cons (.free rfl) (.cons (.free rfl) .nil))), rowsZ_one rfl⟩, trivial⟩ trivial rfl rfl (by kernel_rfl) rfl (.free rfl)

/- spec.l3Name -/

set_option maxRecDepth 4000 in
set_option maxHeartbeats 800000 in
theorem ws_l3Name (p0 : Cur) (r0 : ByteArray) (r1 : Cur) (h : s_l3Name p0 = some (r0, r1)) : Runs Try.prog 98 [.ptr (1000, 0) 0 0] [⟨107, 3, [[.lst 1 (List.map byteV p0.b), .sc (.int .i64 p0.i), .sc (.int .i64 p0.h)]], false, false⟩] (.sc (.string r0)) [⟨107, 3, [[.lst 1 (List.map byteV r1.b), .sc (.int .i64 r1.i), .sc (.int .i64 r1.h)]], false, false⟩] := by
  unfold s_l3Name at h
  refine runsR [.tmp 2] Try.func98 rfl rfl rfl rfl ?_
  rw [Try.ntmps98]
  refine tri_seq ?_
  refine tri_region ?_
  refine s_mv (.inr rfl) (v := .sc (.string (⟨#[]⟩ : ByteArray))) rfl rfl rfl rfl ?_
  refine rt_nil ?_
  refine tri_seq ?_
  refine tri_region ?_
  refine s_mv (.inl rfl) (by conv => lhs; whnf) rfl rfl rfl ?_
  refine s_buildSlice (rows' := List.map strV [(⟨#[]⟩ : ByteArray), (⟨#[99, 111, 109]⟩ : ByteArray), (⟨#[101, 120, 46, 99, 111, 109]⟩ : ByteArray), (⟨#[119, 119, 119, 46, 101, 120, 46, 99, 111, 109]⟩ : ByteArray), (⟨#[110, 115, 46, 101, 120, 46, 99, 111, 109]⟩ : ByteArray), (⟨#[111, 114, 103]⟩ : ByteArray), (⟨#[97, 46, 111, 114, 103]⟩ : ByteArray), (⟨#[98, 46, 97, 46, 111, 114, 103]⟩ : ByteArray), (⟨#[110, 115, 49, 46, 111, 114, 103]⟩ : ByteArray), (⟨#[120, 46, 121, 46, 122, 46, 101, 120, 46, 99, 111, 109]⟩ : ByteArray)]) rfl rfl rfl sl54 zc9 rfl rfl rfl rfl rfl rfl rfl rfl rfl ?_
  refine bnd2_elim h fun x1 x2 q3 h => ?_
  refine s_callZ (kb := [(4, 0)]) (ns := [(1000, 0)]) (v := .sc (.string x1)) rfl rfl cl82 (ws_l1Str p0 ([(⟨#[]⟩ : ByteArray), (⟨#[99, 111, 109]⟩ : ByteArray), (⟨#[101, 120, 46, 99, 111, 109]⟩ : ByteArray), (⟨#[119, 119, 119, 46, 101, 120, 46, 99, 111, 109]⟩ : ByteArray), (⟨#[110, 115, 46, 101, 120, 46, 99, 111, 109]⟩ : ByteArray), (⟨#[111, 114, 103]⟩ : ByteArray), (⟨#[97, 46, 111, 114, 103]⟩ : ByteArray), (⟨#[98, 46, 97, 46, 111, 114, 103]⟩ : ByteArray), (⟨#[110, 115, 49, 46, 111, 114, 103]⟩ : ByteArray), (⟨#[120, 46, 121, 46, 122, 46, 101, 120, 46, 99, 111, 109]⟩ : ByteArray)]) x1 x2 q3) rfl (.cons (.ptrOwn rfl) (.cons (lendL rfl (.head _) rfl strV_free strV_len) .nil)) ⟨⟨_, rfl, rfl⟩, trivial⟩ (memCons (allFree_one rfl) memNil) (List.nodup_cons.2 ⟨List.not_mem_nil, .nil⟩) (by decide) ⟨⟨_, rfl, rfl⟩, trivial⟩ rfl trivial (memCons (allFree_one rfl) memNil) rfl rfl rfl rfl rfl rfl ?_
  refine s_mv (.inr rfl) (by conv => lhs; whnf) rfl rfl rfl ?_
  refine rt_nil ?_
  refine tri_ret ?_
  have e0 := (some2 h).1; have e1 := (some2 h).2; subst e0; subst e1
  exact endY [((1000, 0), ⟨107, 3, [[.lst 1 (List.map byteV x2.b), .sc (.int .i64 x2.i), .sc (.int .i64 x2.h)]], false, false⟩, some (1000, 0))] [] (rvC (resTmp rfl) rvN) ⟨⟨rfl, _, rfl, rfl, rfl, rfl, id, rowsCv_one (.cons (.free rfl) (.cons (.free rfl) (.cons (.free rfl) .nil))), rowsZ_one rfl⟩, trivial⟩ trivial rfl rfl (by kernel_rfl) rfl (.free rfl)

/- spec.l1Int -/

set_option maxRecDepth 4000 in
set_option maxHeartbeats 800000 in
theorem ws_l1Int (p0 : Cur) (p1 : List Int) (r0 : Int) (r1 : Cur) (h : s_l1Int p0 p1 = some (r0, r1)) : Runs Try.prog 95 [.ptr (1000, 0) 0 0, .lst 1 (List.map intV p1)] [⟨107, 3, [[.lst 1 (List.map byteV p0.b), .sc (.int .i64 p0.i), .sc (.int .i64 p0.h)]], false, false⟩] (.sc (.int .i64 r0)) [⟨107, 3, [[.lst 1 (List.map byteV r1.b), .sc (.int .i64 r1.i), .sc (.int .i64 r1.h)]], false, false⟩] := by
  unfold s_l1Int at h
  refine runsR [.tmp 4] Try.func95 rfl rfl rfl rfl ?_
  rw [Try.ntmps95]
  refine tri_seq ?_
  refine tri_region ?_
  refine s_mv (.inr rfl) (v := .sc (.int .i64 0)) rfl rfl rfl rfl ?_
  refine rt_nil ?_
  refine tri_seq ?_
  refine tri_region ?_
  refine s_mv (.inl rfl) (by conv => lhs; whnf) rfl rfl rfl ?_
  refine s_mv (.inl rfl) (by conv => lhs; whnf) rfl rfl rfl ?_
  refine s_mv (.inl rfl) (by conv => lhs; whnf) rfl rfl rfl ?_
  refine s_lenL rfl sl49 rfl rfl rfl rfl ?_
  refine bnd2_elim h fun x1 x2 q3 h => ?_
  refine s_callZ (kb := []) (ns := [(1000, 0)]) (v := .sc (.int .i64 x1)) rfl rfl cl84 (ws_l1Below p0 (p1.length : Int) x1 x2 q3) rfl (.cons (.ptrOwn rfl) (.cons (.free rfl) .nil)) ⟨⟨_, rfl, rfl⟩, trivial⟩ (memCons (allFree_one rfl) memNil) (List.nodup_cons.2 ⟨List.not_mem_nil, .nil⟩) memNil trivial rfl trivial (memCons (allFree_one rfl) memNil) rfl rfl rfl rfl rfl rfl ?_
  refine bnd1_elim h fun x4 q5 h => ?_
  have q5a := (idx_some q5).1; have q5b := (idx_some q5).2
  refine s_indexFZ rfl rfl rfl sl49 q5a (get_ltM q5b) rfl rfl rfl ?_
  refine s_loadF rfl rfl (rowG q5b) ty3 rfl (.inr rfl) (by conv => lhs; whnf) rfl rfl rfl ?_
  refine s_mv (.inr rfl) (by conv => lhs; whnf) rfl rfl rfl ?_
  refine rt_nil ?_
  refine tri_ret ?_
  have e0 := (some2 h).1; have e1 := (some2 h).2; subst e0; subst e1
  exact endY [((1000, 0), ⟨107, 3, [[.lst 1 (List.map byteV x2.b), .sc (.int .i64 x2.i), .sc (.int .i64 x2.h)]], false, false⟩, some (1000, 0))] [] (rvC (resTmp rfl) rvN) ⟨⟨rfl, _, rfl, rfl, rfl, rfl, id, rowsCv_one (.cons (.free rfl) (.cons (.free rfl) (.cons (.free rfl) .nil))), rowsZ_one rfl⟩, trivial⟩ trivial rfl rfl (by kernel_rfl) rfl (.free rfl)

/- spec.l5Type -/

set_option maxRecDepth 4000 in
set_option maxHeartbeats 800000 in
theorem ws_l5Type (p0 : Cur) (r0 : Int) (r1 : Cur) (h : s_l5Type p0 = some (r0, r1)) : Runs Try.prog 83 [.ptr (1000, 0) 0 0] [⟨107, 3, [[.lst 1 (List.map byteV p0.b), .sc (.int .i64 p0.i), .sc (.int .i64 p0.h)]], false, false⟩] (.sc (.int .i64 r0)) [⟨107, 3, [[.lst 1 (List.map byteV r1.b), .sc (.int .i64 r1.i), .sc (.int .i64 r1.h)]], false, false⟩] := by
  unfold s_l5Type at h
  refine runsR [.tmp 2] Try.func83 rfl rfl rfl rfl ?_
  rw [Try.ntmps83]
  refine tri_seq ?_
  refine tri_region ?_
  refine s_mv (.inr rfl) (v := .sc (.int .i64 0)) rfl rfl rfl rfl ?_
  refine rt_nil ?_
  refine tri_seq ?_
  refine tri_region ?_
  refine s_mv (.inl rfl) (by conv => lhs; whnf) rfl rfl rfl ?_
  refine s_buildSlice (rows' := List.map intV [1, 1, 1, 2, 2, 5, 6, 16]) rfl rfl rfl sl49 zc3 rfl rfl rfl rfl rfl rfl rfl rfl rfl ?_
  refine bnd2_elim h fun x1 x2 q3 h => ?_
  refine s_callZ (kb := [(4, 0)]) (ns := [(1000, 0)]) (v := .sc (.int .i64 x1)) rfl rfl cl95 (ws_l1Int p0 [1, 1, 1, 2, 2, 5, 6, 16] x1 x2 q3) rfl (.cons (.ptrOwn rfl) (.cons (lendL rfl (.head _) rfl intV_free intV_len) .nil)) ⟨⟨_, rfl, rfl⟩, trivial⟩ (memCons (allFree_one rfl) memNil) (List.nodup_cons.2 ⟨List.not_mem_nil, .nil⟩) (by decide) ⟨⟨_, rfl, rfl⟩, trivial⟩ rfl trivial (memCons (allFree_one rfl) memNil) rfl rfl rfl rfl rfl rfl ?_
  refine s_mv (.inr rfl) (by conv => lhs; whnf) rfl rfl rfl ?_
  refine rt_nil ?_
  refine tri_ret ?_
  have e0 := (some2 h).1; have e1 := (some2 h).2; subst e0; subst e1
  exact endY [((1000, 0), ⟨107, 3, [[.lst 1 (List.map byteV x2.b), .sc (.int .i64 x2.i), .sc (.int .i64 x2.h)]], false, false⟩, some (1000, 0))] [] (rvC (resTmp rfl) rvN) ⟨⟨rfl, _, rfl, rfl, rfl, rfl, id, rowsCv_one (.cons (.free rfl) (.cons (.free rfl) (.cons (.free rfl) .nil))), rowsZ_one rfl⟩, trivial⟩ trivial rfl rfl (by kernel_rfl) rfl (.free rfl)

/- spec.l5Draw -/
def inv_s_l5Draw_0 (x1 : ByteArray) (x4 : Int) (x7 : Int) (x8 : Cur) (j0_0 : Bool) : St := mkT 42 [(0, .ptr (1000, 0) 0 0), (2, .ptr (2, 0) 0 0), (3, .ptr (3, 0) 0 0), (13, .sc (.int .i64 x4)), (20, .sc (.bool j0_0))] [((1000, 0), some ⟨107, 3, [[.lst 1 (List.map byteV x8.b), .sc (.int .i64 x8.i), .sc (.int .i64 x8.h)]], false, false⟩), ((2, 0), some ⟨36, 6, [[.sc (.string (⟨#[]⟩ : ByteArray)), .sc (.int .i64 0), .sc (.int .i64 0), .sc (.int .i64 0), .sc (.string (⟨#[]⟩ : ByteArray)), .sc (.string (⟨#[]⟩ : ByteArray))]], false, true⟩), ((3, 0), some ⟨36, 6, [[.sc (.string x1), .sc (.int .i64 x4), .sc (.int .i64 x7), .sc (.int .i64 0), .sc (.string (⟨#[]⟩ : ByteArray)), .sc (.string (⟨#[]⟩ : ByteArray))]], false, true⟩)]
set_option maxRecDepth 4000 in
set_option maxHeartbeats 800000 in
theorem ws_l5Draw (p0 : Cur) (r0 : Rec) (r1 : Cur) (h : s_l5Draw p0 = some (r0, r1)) : Runs Try.prog 93 [.ptr (1000, 0) 0 0] [⟨107, 3, [[.lst 1 (List.map byteV p0.b), .sc (.int .i64 p0.i), .sc (.int .i64 p0.h)]], false, false⟩] (.agg (recV r0)) [⟨107, 3, [[.lst 1 (List.map byteV r1.b), .sc (.int .i64 r1.i), .sc (.int .i64 r1.h)]], false, false⟩] := by
  unfold s_l5Draw at h
  refine runsR [.cell 2 36] Try.func93 rfl rfl rfl rfl ?_
  rw [Try.ntmps93]
  refine tri_seq ?_
  refine tri_region ?_
  refine s_alloc rfl rfl rfl zc36 rfl rfl rfl rfl rfl ?_
  refine rt_nil ?_
  refine tri_seq ?_
  refine tri_region ?_
  refine s_mv (.inl rfl) (by conv => lhs; whnf) rfl rfl rfl ?_
  refine bnd2_elim h fun x1 x2 q3 h => ?_
  refine s_callZ (kb := []) (ns := [(1000, 0)]) (v := .sc (.string x1)) rfl rfl cl98 (ws_l3Name p0 x1 x2 q3) rfl (.cons (.ptrOwn rfl) .nil) ⟨⟨_, rfl, rfl⟩, trivial⟩ (memCons (allFree_one rfl) memNil) (List.nodup_cons.2 ⟨List.not_mem_nil, .nil⟩) memNil trivial rfl trivial (memCons (allFree_one rfl) memNil) rfl rfl rfl rfl rfl rfl ?_
  refine s_mv (.inl rfl) (by conv => lhs; whnf) rfl rfl rfl ?_
  refine bnd2_elim h fun x4 x5 q6 h => ?_
  refine s_callZ (kb := []) (ns := [(1000, 0)]) (v := .sc (.int .i64 x4)) rfl rfl cl83 (ws_l5Type x2 x4 x5 q6) rfl (.cons (.ptrOwn rfl) .nil) ⟨⟨_, rfl, rfl⟩, trivial⟩ (memCons (allFree_one rfl) memNil) (List.nodup_cons.2 ⟨List.not_mem_nil, .nil⟩) memNil trivial rfl trivial (memCons (allFree_one rfl) memNil) rfl rfl rfl rfl rfl rfl ?_
  refine s_mv (.inl rfl) (by conv => lhs; whnf) rfl rfl rfl ?_
  refine s_buildSlice (rows' := List.map intV [0, 1, 5, 60, 300, 100000]) rfl rfl rfl sl49 zc3 rfl rfl rfl rfl rfl rfl rfl rfl rfl ?_
  refine bnd2_elim h fun x7 x8 q9 h => ?_
  refine s_callZ (kb := [(9, 0)]) (ns := [(1000, 0)]) (v := .sc (.int .i64 x7)) rfl rfl cl95 (ws_l1Int x5 [0, 1, 5, 60, 300, 100000] x7 x8 q9) rfl (.cons (.ptrOwn rfl) (.cons (lendL rfl (.head _) rfl intV_free intV_len) .nil)) ⟨⟨_, rfl, rfl⟩, trivial⟩ (memCons (allFree_one rfl) memNil) (List.nodup_cons.2 ⟨List.not_mem_nil, .nil⟩) (by decide) ⟨⟨_, rfl, rfl⟩, trivial⟩ rfl trivial (memCons (allFree_one rfl) memNil) rfl rfl rfl rfl rfl rfl ?_
  refine s_build (cells' := [.sc (.string x1), .sc (.int .i64 x4), .sc (.int .i64 x7), .sc (.int .i64 0), .sc (.string (⟨#[]⟩ : ByteArray)), .sc (.string (⟨#[]⟩ : ByteArray))]) rfl stc36 rfl rfl rfl rfl rfl rfl rfl ?_
  refine s_alloc rfl rfl rfl zc36 rfl rfl rfl rfl rfl ?_
  refine s_storeB rfl rfl rfl ty36 rfl rfl rfl rfl rfl ?_
  refine rt_nil ?_
  refine tri_seq ?_
  refine tri_seq ?_
  refine tri_region ?_
  refine s_fieldAddr rfl rfl fd36_1 rfl rfl rfl rfl ?_
  refine s_load rfl rfl rfl rfl ty3 rfl (.inr rfl) (by conv => lhs; whnf) rfl rfl rfl ?_
  refine rt_nil ?_
  refine tri_block ?_
  refine tri_seq ?_
  refine tri_region ?_
  refine s_of (st_eqI rfl rfl rfl) rfl rfl rfl rfl ?_
  refine s_mv (.inr rfl) (by conv => lhs; whnf) rfl rfl rfl ?_
  refine rt_nil ?_
  refine tri_cond rfl (fun c10 => ?_) (fun c10 => ?_)
  · replace h := cond_t h c10
    refine tri_region ?_
    refine s_mv (.inl rfl) (by conv => lhs; whnf) rfl rfl rfl ?_
    refine bnd2_elim h fun x11 x12 q13 h => ?_
    refine s_callZ (kb := []) (ns := [(1000, 0)]) (v := .sc (.int .i64 x11)) rfl rfl cl84 (ws_l1Below x8 9 x11 x12 q13) rfl (.cons (.ptrOwn rfl) (.cons (.free rfl) .nil)) ⟨⟨_, rfl, rfl⟩, trivial⟩ (memCons (allFree_one rfl) memNil) (List.nodup_cons.2 ⟨List.not_mem_nil, .nil⟩) memNil trivial rfl trivial (memCons (allFree_one rfl) memNil) rfl rfl rfl rfl rfl rfl ?_
    refine grd_elim h fun g14 h => ?_
    refine s_addI rfl rfl rfl rfl g14 rfl rfl rfl ?_
    refine s_fieldAddr rfl rfl fd36_3 rfl rfl rfl rfl ?_
    refine s_store (rows' := [[.sc (.string x1), .sc (.int .i64 x4), .sc (.int .i64 x7), .sc (.int .i64 (1 + x11)), .sc (.string (⟨#[]⟩ : ByteArray)), .sc (.string (⟨#[]⟩ : ByteArray))]]) rfl rfl rfl rfl ty3 rfl rfl rfl rfl rfl rfl ?_
    refine rt_nil ?_
    refine tri_seq ?_
    refine tri_region ?_
    refine s_loadR rfl rfl rfl rfl ty36 rfl rfl rfl ?_
    refine s_storeB rfl rfl rfl ty36 rfl rfl rfl rfl rfl ?_
    refine rt_nil ?_
    refine tri_ret ?_
    have e0 := (some2 h).1; have e1 := (some2 h).2; subst e0; subst e1
    exact endY [((1000, 0), ⟨107, 3, [[.lst 1 (List.map byteV x12.b), .sc (.int .i64 x12.i), .sc (.int .i64 x12.h)]], false, false⟩, some (1000, 0))] [] (rvC (resCell rfl rfl ty36) rvN) ⟨⟨rfl, _, rfl, rfl, rfl, rfl, id, rowsCv_one (.cons (.free rfl) (.cons (.free rfl) (.cons (.free rfl) .nil))), rowsZ_one rfl⟩, trivial⟩ trivial rfl rfl (by kernel_rfl) rfl (cvAgg rfl)
  · replace h := cond_f h c10
    refine tri_cutI (ι := { p : Bool // s_l5Draw_j0 x1 x4 x7 x8 p = some (r0, r1) }) (fun p => inv_s_l5Draw_0 x1 x4 x7 x8 p.1) ?_ ?_
    · skip
      refine tri_seq ?_
      refine tri_region ?_
      refine s_of (st_eqI rfl rfl rfl) rfl rfl rfl rfl ?_
      refine s_mv (.inr rfl) (by conv => lhs; whnf) rfl rfl rfl ?_
      refine rt_nil ?_
      refine tri_cond rfl (fun c15 => ?_) (fun c15 => ?_)
      · replace h := cond_t h c15
        refine tri_skip ?_
        refine Exists.intro ⟨decide (x4 = 2), h⟩ ?_
        refine entX [((1000, 0), ⟨107, 3, [[.lst 1 (List.map byteV x8.b), .sc (.int .i64 x8.i), .sc (.int .i64 x8.h)]], false, false⟩, some (1000, 0)), ((2, 0), ⟨36, 6, [[.sc (.string (⟨#[]⟩ : ByteArray)), .sc (.int .i64 0), .sc (.int .i64 0), .sc (.int .i64 0), .sc (.string (⟨#[]⟩ : ByteArray)), .sc (.string (⟨#[]⟩ : ByteArray))]], false, true⟩, some (2, 0)), ((3, 0), ⟨36, 6, [[.sc (.string x1), .sc (.int .i64 x4), .sc (.int .i64 x7), .sc (.int .i64 0), .sc (.string (⟨#[]⟩ : ByteArray)), .sc (.string (⟨#[]⟩ : ByteArray))]], false, true⟩, some (3, 0))] [] ⟨⟨rfl, _, rfl, rfl, rfl, rfl, id, rowsCv_one (.cons (.free rfl) (.cons (.free rfl) (.cons (.free rfl) .nil))), rowsZ_one rfl⟩, ⟨rfl, _, rfl, rfl, rfl, rfl, id, rowsCv_one (.cons (.free rfl) (.cons (.free rfl) (.cons (.free rfl) (.cons (.free rfl) (.cons (.free rfl) (.cons (.free rfl) .nil)))))), rowsZ_one rfl⟩, ⟨rfl, _, rfl, rfl, rfl, rfl, id, rowsCv_one (.cons (.free rfl) (.cons (.free rfl) (.cons (.free rfl) (.cons (.free rfl) (.cons (.free rfl) (.cons (.free rfl) .nil)))))), rowsZ_one rfl⟩, trivial⟩ trivial rfl rfl ?_
        exact ⟨(.ptr rfl), (.ptr rfl), (.ptr rfl), (.free rfl), (.free rfl), trivial⟩
      · replace h := cond_f h c15
        refine tri_region ?_
        refine s_of (st_eqI rfl rfl rfl) rfl rfl rfl rfl ?_
        refine s_mv (.inr rfl) (by conv => lhs; whnf) rfl rfl rfl ?_
        refine rt_nil ?_
        refine Exists.intro ⟨decide (x4 = 5), h⟩ ?_
        refine entX [((1000, 0), ⟨107, 3, [[.lst 1 (List.map byteV x8.b), .sc (.int .i64 x8.i), .sc (.int .i64 x8.h)]], false, false⟩, some (1000, 0)), ((2, 0), ⟨36, 6, [[.sc (.string (⟨#[]⟩ : ByteArray)), .sc (.int .i64 0), .sc (.int .i64 0), .sc (.int .i64 0), .sc (.string (⟨#[]⟩ : ByteArray)), .sc (.string (⟨#[]⟩ : ByteArray))]], false, true⟩, some (2, 0)), ((3, 0), ⟨36, 6, [[.sc (.string x1), .sc (.int .i64 x4), .sc (.int .i64 x7), .sc (.int .i64 0), .sc (.string (⟨#[]⟩ : ByteArray)), .sc (.string (⟨#[]⟩ : ByteArray))]], false, true⟩, some (3, 0))] [] ⟨⟨rfl, _, rfl, rfl, rfl, rfl, id, rowsCv_one (.cons (.free rfl) (.cons (.free rfl) (.cons (.free rfl) .nil))), rowsZ_one rfl⟩, ⟨rfl, _, rfl, rfl, rfl, rfl, id, rowsCv_one (.cons (.free rfl) (.cons (.free rfl) (.cons (.free rfl) (.cons (.free rfl) (.cons (.free rfl) (.cons (.free rfl) .nil)))))), rowsZ_one rfl⟩, ⟨rfl, _, rfl, rfl, rfl, rfl, id, rowsCv_one (.cons (.free rfl) (.cons (.free rfl) (.cons (.free rfl) (.cons (.free rfl) (.cons (.free rfl) (.cons (.free rfl) .nil)))))), rowsZ_one rfl⟩, trivial⟩ trivial rfl rfl ?_
        exact ⟨(.ptr rfl), (.ptr rfl), (.ptr rfl), (.free rfl), (.free rfl), trivial⟩
    · rintro ⟨j0_0, h⟩
      replace h : s_l5Draw_j0 x1 x4 x7 x8 j0_0 = some (r0, r1) := h
      unfold s_l5Draw_j0 at h
      show Tri _ _ _ (inv_s_l5Draw_0 x1 x4 x7 x8 j0_0)
      refine tri_cond rfl (fun c15 => ?_) (fun c15 => ?_)
      · replace h := cond_t h c15
        refine tri_region ?_
        refine s_mv (.inl rfl) (by conv => lhs; whnf) rfl rfl rfl ?_
        refine bnd2_elim h fun x16 x17 q18 h => ?_
        refine s_callZ (kb := []) (ns := [(1000, 0)]) (v := .sc (.string x16)) rfl rfl cl98 (ws_l3Name x8 x16 x17 q18) rfl (.cons (.ptrOwn rfl) .nil) ⟨⟨_, rfl, rfl⟩, trivial⟩ (memCons (allFree_one rfl) memNil) (List.nodup_cons.2 ⟨List.not_mem_nil, .nil⟩) memNil trivial rfl trivial (memCons (allFree_one rfl) memNil) rfl rfl rfl rfl rfl rfl ?_
        refine s_fieldAddr rfl rfl fd36_4 rfl rfl rfl rfl ?_
        refine s_store (rows' := [[.sc (.string x1), .sc (.int .i64 x4), .sc (.int .i64 x7), .sc (.int .i64 0), .sc (.string x16), .sc (.string (⟨#[]⟩ : ByteArray))]]) rfl rfl rfl rfl ty9 rfl rfl rfl rfl rfl rfl ?_
        refine rt_nil ?_
        refine tri_seq ?_
        refine tri_region ?_
        refine s_loadR rfl rfl rfl rfl ty36 rfl rfl rfl ?_
        refine s_storeB rfl rfl rfl ty36 rfl rfl rfl rfl rfl ?_
        refine rt_nil ?_
        refine tri_ret ?_
        have e0 := (some2 h).1; have e1 := (some2 h).2; subst e0; subst e1
        exact endY [((1000, 0), ⟨107, 3, [[.lst 1 (List.map byteV x17.b), .sc (.int .i64 x17.i), .sc (.int .i64 x17.h)]], false, false⟩, some (1000, 0))] [] (rvC (resCell rfl rfl ty36) rvN) ⟨⟨rfl, _, rfl, rfl, rfl, rfl, id, rowsCv_one (.cons (.free rfl) (.cons (.free rfl) (.cons (.free rfl) .nil))), rowsZ_one rfl⟩, trivial⟩ trivial rfl rfl (by kernel_rfl) rfl (cvAgg rfl)
      · replace h := cond_f h c15
        refine tri_seq ?_
        refine tri_region ?_
        refine s_of (st_eqI rfl rfl rfl) rfl rfl rfl rfl ?_
        refine s_mv (.inr rfl) (by conv => lhs; whnf) rfl rfl rfl ?_
        refine rt_nil ?_
        refine tri_cond rfl (fun c19 => ?_) (fun c19 => ?_)
        · replace h := cond_t h c19
          refine tri_seq ?_
          refine tri_region ?_
          refine s_mv (.inl rfl) (by conv => lhs; whnf) rfl rfl rfl ?_
          refine bnd2_elim h fun x20 x21 q22 h => ?_
          refine s_callZ (kb := []) (ns := [(1000, 0)]) (v := .sc (.string x20)) rfl rfl cl98 (ws_l3Name x8 x20 x21 q22) rfl (.cons (.ptrOwn rfl) .nil) ⟨⟨_, rfl, rfl⟩, trivial⟩ (memCons (allFree_one rfl) memNil) (List.nodup_cons.2 ⟨List.not_mem_nil, .nil⟩) memNil trivial rfl trivial (memCons (allFree_one rfl) memNil) rfl rfl rfl rfl rfl rfl ?_
          refine s_fieldAddr rfl rfl fd36_4 rfl rfl rfl rfl ?_
          refine s_store (rows' := [[.sc (.string x1), .sc (.int .i64 x4), .sc (.int .i64 x7), .sc (.int .i64 0), .sc (.string x20), .sc (.string (⟨#[]⟩ : ByteArray))]]) rfl rfl rfl rfl ty9 rfl rfl rfl rfl rfl rfl ?_
          refine rt_nil ?_
          refine tri_region ?_
          refine s_mv (.inl rfl) (by conv => lhs; whnf) rfl rfl rfl ?_
          refine s_buildSlice (rows' := List.map intV [0, 5, 60]) rfl rfl rfl sl49 zc3 rfl rfl rfl rfl rfl rfl rfl rfl rfl ?_
          refine bnd2_elim h fun x23 x24 q25 h => ?_
          refine s_callZ (kb := [(32, 0)]) (ns := [(1000, 0)]) (v := .sc (.int .i64 x23)) rfl rfl cl95 (ws_l1Int x21 [0, 5, 60] x23 x24 q25) rfl (.cons (.ptrOwn rfl) (.cons (lendL rfl (.head _) rfl intV_free intV_len) .nil)) ⟨⟨_, rfl, rfl⟩, trivial⟩ (memCons (allFree_one rfl) memNil) (List.nodup_cons.2 ⟨List.not_mem_nil, .nil⟩) (by decide) ⟨⟨_, rfl, rfl⟩, trivial⟩ rfl trivial (memCons (allFree_one rfl) memNil) rfl rfl rfl rfl rfl rfl ?_
          refine s_fieldAddr rfl rfl fd36_3 rfl rfl rfl rfl ?_
          refine s_store (rows' := [[.sc (.string x1), .sc (.int .i64 x4), .sc (.int .i64 x7), .sc (.int .i64 x23), .sc (.string x20), .sc (.string (⟨#[]⟩ : ByteArray))]]) rfl rfl rfl rfl ty3 rfl rfl rfl rfl rfl rfl ?_
          refine rt_nil ?_
          refine tri_seq ?_
          refine tri_region ?_
          refine s_loadR rfl rfl rfl rfl ty36 rfl rfl rfl ?_
          refine s_storeB rfl rfl rfl ty36 rfl rfl rfl rfl rfl ?_
          refine rt_nil ?_
          refine tri_ret ?_
          have e0 := (some2 h).1; have e1 := (some2 h).2; subst e0; subst e1
          exact endY [((1000, 0), ⟨107, 3, [[.lst 1 (List.map byteV x24.b), .sc (.int .i64 x24.i), .sc (.int .i64 x24.h)]], false, false⟩, some (1000, 0))] [] (rvC (resCell rfl rfl ty36) rvN) ⟨⟨rfl, _, rfl, rfl, rfl, rfl, id, rowsCv_one (.cons (.free rfl) (.cons (.free rfl) (.cons (.free rfl) .nil))), rowsZ_one rfl⟩, trivial⟩ trivial rfl rfl (by kernel_rfl) rfl (cvAgg rfl)
        · replace h := cond_f h c19
          refine tri_seq ?_
          refine tri_region ?_
          refine s_of (st_eqI rfl rfl rfl) rfl rfl rfl rfl ?_
          refine s_mv (.inr rfl) (by conv => lhs; whnf) rfl rfl rfl ?_
          refine rt_nil ?_
          refine tri_cond rfl (fun c26 => ?_) (fun c26 => ?_)
          · replace h := cond_t h c26
            refine tri_region ?_
            refine s_mv (.inl rfl) (by conv => lhs; whnf) rfl rfl rfl ?_
            refine s_buildSlice (rows' := List.map strV [(⟨#[]⟩ : ByteArray), (⟨#[104, 105]⟩ : ByteArray), (⟨#[116, 119, 101, 108, 118, 101, 98, 121, 116, 101, 115, 33]⟩ : ByteArray)]) rfl rfl rfl sl54 zc9 rfl rfl rfl rfl rfl rfl rfl rfl rfl ?_
            refine bnd2_elim h fun x27 x28 q29 h => ?_
            refine s_callZ (kb := [(38, 0)]) (ns := [(1000, 0)]) (v := .sc (.string x27)) rfl rfl cl82 (ws_l1Str x8 ([(⟨#[]⟩ : ByteArray), (⟨#[104, 105]⟩ : ByteArray), (⟨#[116, 119, 101, 108, 118, 101, 98, 121, 116, 101, 115, 33]⟩ : ByteArray)]) x27 x28 q29) rfl (.cons (.ptrOwn rfl) (.cons (lendL rfl (.head _) rfl strV_free strV_len) .nil)) ⟨⟨_, rfl, rfl⟩, trivial⟩ (memCons (allFree_one rfl) memNil) (List.nodup_cons.2 ⟨List.not_mem_nil, .nil⟩) (by decide) ⟨⟨_, rfl, rfl⟩, trivial⟩ rfl trivial (memCons (allFree_one rfl) memNil) rfl rfl rfl rfl rfl rfl ?_
            refine s_fieldAddr rfl rfl fd36_5 rfl rfl rfl rfl ?_
            refine s_store (rows' := [[.sc (.string x1), .sc (.int .i64 x4), .sc (.int .i64 x7), .sc (.int .i64 0), .sc (.string (⟨#[]⟩ : ByteArray)), .sc (.string x27)]]) rfl rfl rfl rfl ty9 rfl rfl rfl rfl rfl rfl ?_
            refine rt_nil ?_
            refine tri_seq ?_
            refine tri_region ?_
            refine s_loadR rfl rfl rfl rfl ty36 rfl rfl rfl ?_
            refine s_storeB rfl rfl rfl ty36 rfl rfl rfl rfl rfl ?_
            refine rt_nil ?_
            refine tri_ret ?_
            have e0 := (some2 h).1; have e1 := (some2 h).2; subst e0; subst e1
            exact endY [((1000, 0), ⟨107, 3, [[.lst 1 (List.map byteV x28.b), .sc (.int .i64 x28.i), .sc (.int .i64 x28.h)]], false, false⟩, some (1000, 0))] [] (rvC (resCell rfl rfl ty36) rvN) ⟨⟨rfl, _, rfl, rfl, rfl, rfl, id, rowsCv_one (.cons (.free rfl) (.cons (.free rfl) (.cons (.free rfl) .nil))), rowsZ_one rfl⟩, trivial⟩ trivial rfl rfl (by kernel_rfl) rfl (cvAgg rfl)
          · replace h := cond_f h c26
            refine tri_skip ?_
            refine tri_seq ?_
            refine tri_region ?_
            refine s_loadR rfl rfl rfl rfl ty36 rfl rfl rfl ?_
            refine s_storeB rfl rfl rfl ty36 rfl rfl rfl rfl rfl ?_
            refine rt_nil ?_
            refine tri_ret ?_
            have e0 := (some2 h).1; have e1 := (some2 h).2; subst e0; subst e1
            exact endY [((1000, 0), ⟨107, 3, [[.lst 1 (List.map byteV x8.b), .sc (.int .i64 x8.i), .sc (.int .i64 x8.h)]], false, false⟩, some (1000, 0))] [] (rvC (resCell rfl rfl ty36) rvN) ⟨⟨rfl, _, rfl, rfl, rfl, rfl, id, rowsCv_one (.cons (.free rfl) (.cons (.free rfl) (.cons (.free rfl) .nil))), rowsZ_one rfl⟩, trivial⟩ trivial rfl rfl (by kernel_rfl) rfl (cvAgg rfl)

/- spec.l1Once -/

set_option maxRecDepth 4000 in
set_option maxHeartbeats 800000 in
theorem ws_l1Once (p0 : Cur) (p1 : Int) (r0 : Bool) (r1 : Cur) (h : s_l1Once p0 p1 = some (r0, r1)) : Runs Try.prog 94 [.ptr (1000, 0) 0 0, .sc (.int .i64 p1)] [⟨107, 3, [[.lst 1 (List.map byteV p0.b), .sc (.int .i64 p0.i), .sc (.int .i64 p0.h)]], false, false⟩] (.sc (.bool r0)) [⟨107, 3, [[.lst 1 (List.map byteV r1.b), .sc (.int .i64 r1.i), .sc (.int .i64 r1.h)]], false, false⟩] := by
  unfold s_l1Once at h
  refine runsR [.tmp 4] Try.func94 rfl rfl rfl rfl ?_
  rw [Try.ntmps94]
  refine tri_seq ?_
  refine tri_region ?_
  refine s_mv (.inr rfl) (v := .sc (.bool false)) rfl rfl rfl rfl ?_
  refine rt_nil ?_
  refine tri_seq ?_
  refine tri_region ?_
  refine s_mv (.inl rfl) (by conv => lhs; whnf) rfl rfl rfl ?_
  refine s_mv (.inl rfl) (by conv => lhs; whnf) rfl rfl rfl ?_
  refine bnd2_elim h fun x1 x2 q3 h => ?_
  refine s_callZ (kb := []) (ns := [(1000, 0)]) (v := .sc (.int .i64 x1)) rfl rfl cl84 (ws_l1Below p0 p1 x1 x2 q3) rfl (.cons (.ptrOwn rfl) (.cons (.free rfl) .nil)) ⟨⟨_, rfl, rfl⟩, trivial⟩ (memCons (allFree_one rfl) memNil) (List.nodup_cons.2 ⟨List.not_mem_nil, .nil⟩) memNil trivial rfl trivial (memCons (allFree_one rfl) memNil) rfl rfl rfl rfl rfl rfl ?_
  refine s_of (st_eqI rfl rfl rfl) rfl rfl rfl rfl ?_
  refine s_mv (.inr rfl) (by conv => lhs; whnf) rfl rfl rfl ?_
  refine rt_nil ?_
  refine tri_ret ?_
  have e0 := (some2 h).1; have e1 := (some2 h).2; subst e0; subst e1
  exact endY [((1000, 0), ⟨107, 3, [[.lst 1 (List.map byteV x2.b), .sc (.int .i64 x2.i), .sc (.int .i64 x2.h)]], false, false⟩, some (1000, 0))] [] (rvC (resTmp rfl) rvN) ⟨⟨rfl, _, rfl, rfl, rfl, rfl, id, rowsCv_one (.cons (.free rfl) (.cons (.free rfl) (.cons (.free rfl) .nil))), rowsZ_one rfl⟩, trivial⟩ trivial rfl rfl (by kernel_rfl) rfl (.free rfl)

/- spec.l9Near -/
def inv_s_l9Near_1 (v0_3 : List Rec) (v0_4 : Int) (x5 : Rec) (x8 : ByteArray) (j1_0 : List Int) (j1_1 : Int) (j1_2 : Int) (j1_3 : Int) (j1_4 : Int) (j1_5 : ByteArray) (j1_6 : ByteArray) : St := mkT 33 [(0, .ptr (1000, 0) 0 0), (3, .ref (2003, 0) 0 v0_3.length), (4, .sc (.int .i64 v0_4)), (5, .ptr (5, 0) 0 0)] [((1000, 0), some ⟨107, 3, [[.lst 1 (List.map byteV j1_0), .sc (.int .i64 j1_1), .sc (.int .i64 j1_2)]], false, false⟩), ((2003, 0), some ⟨36, 6, List.map recV v0_3, false, true⟩), ((5, 0), some ⟨36, 6, [[.sc (.string x8), .sc (.int .i64 j1_3), .sc (.int .i64 x5.ttl), .sc (.int .i64 j1_4), .sc (.string j1_5), .sc (.string j1_6)]], false, true⟩)]
def inv_s_l9Near_0  (v0_0 : List Int) (v0_1 : Int) (v0_2 : Int) (v0_3 : List Rec) (v0_4 : Int) : St := mkT 33 [(0, .ptr (1000, 0) 0 0), (3, .ref (2003, 0) 0 v0_3.length), (4, .sc (.int .i64 v0_4))] [((1000, 0), some ⟨107, 3, [[.lst 1 (List.map byteV v0_0), .sc (.int .i64 v0_1), .sc (.int .i64 v0_2)]], false, false⟩), ((2003, 0), some ⟨36, 6, List.map recV v0_3, false, true⟩)]
set_option maxRecDepth 4000 in
set_option maxHeartbeats 800000 in
theorem ws_l9Near (p0 : Cur) (r0 : List Rec) (r1 : Cur) (h : s_l9Near p0 = some (r0, r1)) : Runs Try.prog 81 [.ptr (1000, 0) 0 0] [⟨107, 3, [[.lst 1 (List.map byteV p0.b), .sc (.int .i64 p0.i), .sc (.int .i64 p0.h)]], false, false⟩] (.own 36 6 (List.map recV r0)) [⟨107, 3, [[.lst 1 (List.map byteV r1.b), .sc (.int .i64 r1.i), .sc (.int .i64 r1.h)]], false, false⟩] := by
  unfold s_l9Near at h
  refine runsR [.tmp 2] Try.func81 rfl rfl rfl rfl ?_
  rw [Try.ntmps81]
  refine tri_seq ?_
  refine tri_region ?_
  refine s_mv (.inr rfl) (v := .nils) rfl rfl rfl rfl ?_
  refine rt_nil ?_
  refine tri_seq ?_
  refine tri_region ?_
  refine s_buildSlice (rows' := List.map recV ([] : List Rec)) rfl rfl rfl sl27 zc36 rfl rfl rfl rfl rfl rfl rfl rfl rfl ?_
  refine s_mv (.inr rfl) (by conv => lhs; whnf) rfl rfl rfl ?_
  refine rt_nil ?_
  refine tri_seq ?_
  refine tri_seq ?_
  refine tri_region ?_
  refine s_mv (.inl rfl) (by conv => lhs; whnf) rfl rfl rfl ?_
  refine bnd2_elim h fun x1 x2 q3 h => ?_
  refine s_callZ (kb := []) (ns := [(1000, 0)]) (v := .sc (.int .i64 x1)) rfl rfl cl84 (ws_l1Below p0 6 x1 x2 q3) rfl (.cons (.ptrOwn rfl) (.cons (.free rfl) .nil)) ⟨⟨_, rfl, rfl⟩, trivial⟩ (memCons (allFree_one rfl) memNil) (List.nodup_cons.2 ⟨List.not_mem_nil, .nil⟩) memNil trivial rfl trivial (memCons (allFree_one rfl) memNil) rfl rfl rfl rfl rfl rfl ?_
  refine s_mv (.inr rfl) (by conv => lhs; whnf) rfl rfl rfl ?_
  refine rt_nil ?_
  refine tri_block ?_
  refine tri_loop (ι := { p : Nat × (List Int) × Int × Int × (List Rec) × Int // s_l9Near_l0 p.1 p.2.1 p.2.2.1 p.2.2.2.1 p.2.2.2.2.1 p.2.2.2.2.2 = some (r0, r1) }) (fun p => inv_s_l9Near_0 p.1.2.1 p.1.2.2.1 p.1.2.2.2.1 p.1.2.2.2.2.1 p.1.2.2.2.2.2) (fun p => p.1.1) ⟨(fuel0, x2.b, x2.i, x2.h, ([] : List Rec), x1), h⟩ ?_ ?_
  · skip
    refine entX [((1000, 0), ⟨107, 3, [[.lst 1 (List.map byteV x2.b), .sc (.int .i64 x2.i), .sc (.int .i64 x2.h)]], false, false⟩, some (1000, 0)), ((2003, 0), ⟨36, 6, List.map recV ([] : List Rec), false, true⟩, some (6, 0))] [] ⟨⟨rfl, _, rfl, rfl, rfl, rfl, id, rowsCv_one (.cons (.free rfl) (.cons (.free rfl) (.cons (.free rfl) .nil))), rowsZ_one rfl⟩, ⟨rfl, _, rfl, rfl, rfl, rfl, id, rowsCv_eq rfl (allFree_map recV_free), rowsZ_map recV_len⟩, trivial⟩ trivial rfl rfl ?_
    exact ⟨(.ptr rfl), (.ref rfl), (.free rfl), trivial⟩
  · rintro ⟨⟨f0, v0_0, v0_1, v0_2, v0_3, v0_4⟩, h⟩
    replace h : s_l9Near_l0 f0 v0_0 v0_1 v0_2 v0_3 v0_4 = some (r0, r1) := h
    cases f0 with
    | zero => cases h
    | succ f0 =>
    rw [s_l9Near_l0] at h
    show Tri _ _ _ (inv_s_l9Near_0 v0_0 v0_1 v0_2 v0_3 v0_4)
    refine tri_seq ?_
    refine tri_seq ?_
    refine tri_region ?_
    refine s_mv (.inl rfl) (by conv => lhs; whnf) rfl rfl rfl ?_
    refine s_of (st_gtr rfl rfl rfl) rfl rfl rfl rfl ?_
    refine rt_nil ?_
    refine tri_cond rfl (fun c4 => ?_) (fun c4 => ?_)
    · replace h := cond_t h c4
      refine tri_skip ?_
      refine tri_seq ?_
      refine tri_block ?_
      refine tri_seq ?_
      refine tri_region ?_
      refine s_mv (.inl rfl) (by conv => lhs; whnf) rfl rfl rfl ?_
      refine bnd2_elim h fun x5 x6 q7 h => ?_
      refine s_callZ (kb := []) (ns := [(1000, 0)]) (v := .agg (recV x5)) rfl rfl cl93 (ws_l5Draw (Cur.mk v0_0 v0_1 v0_2) x5 x6 q7) rfl (.cons (.ptrOwn rfl) .nil) ⟨⟨_, rfl, rfl⟩, trivial⟩ (memCons (allFree_one rfl) memNil) (List.nodup_cons.2 ⟨List.not_mem_nil, .nil⟩) memNil trivial rfl trivial (memCons (allFree_one rfl) memNil) rfl rfl rfl rfl rfl rfl ?_
      refine s_alloc rfl rfl rfl zc36 rfl rfl rfl rfl rfl ?_
      refine s_storeB rfl rfl rfl ty36 rfl rfl rfl rfl rfl ?_
      refine rt_nil ?_
      refine tri_seq ?_
      refine tri_region ?_
      refine s_mv (.inl rfl) (by conv => lhs; whnf) rfl rfl rfl ?_
      refine s_buildSlice (rows' := List.map strV [(⟨#[101, 120, 46, 99, 111, 109]⟩ : ByteArray), (⟨#[110, 115, 46, 101, 120, 46, 99, 111, 109]⟩ : ByteArray)]) rfl rfl rfl sl54 zc9 rfl rfl rfl rfl rfl rfl rfl rfl rfl ?_
      refine bnd2_elim h fun x8 x9 q10 h => ?_
      refine s_callZ (kb := [(16, 0)]) (ns := [(1000, 0)]) (v := .sc (.string x8)) rfl rfl cl82 (ws_l1Str x6 ([(⟨#[101, 120, 46, 99, 111, 109]⟩ : ByteArray), (⟨#[110, 115, 46, 101, 120, 46, 99, 111, 109]⟩ : ByteArray)]) x8 x9 q10) rfl (.cons (.ptrOwn rfl) (.cons (lendL rfl (.head _) rfl strV_free strV_len) .nil)) ⟨⟨_, rfl, rfl⟩, trivial⟩ (memCons (allFree_one rfl) memNil) (List.nodup_cons.2 ⟨List.not_mem_nil, .nil⟩) (by decide) ⟨⟨_, rfl, rfl⟩, trivial⟩ rfl trivial (memCons (allFree_one rfl) memNil) rfl rfl rfl rfl rfl rfl ?_
      refine s_fieldAddr rfl rfl fd36_0 rfl rfl rfl rfl ?_
      refine s_store (rows' := [[.sc (.string x8), .sc (.int .i64 x5.ty), .sc (.int .i64 x5.ttl), .sc (.int .i64 x5.n), .sc (.string x5.host), .sc (.string x5.text)]]) rfl rfl rfl rfl ty9 rfl rfl rfl rfl rfl rfl ?_
      refine rt_nil ?_
      refine tri_cutI (ι := { p : (List Int) × Int × Int × Int × Int × ByteArray × ByteArray // s_l9Near_j1 v0_3 v0_4 x5 x8 (s_l9Near_l0 f0) p.1 p.2.1 p.2.2.1 p.2.2.2.1 p.2.2.2.2.1 p.2.2.2.2.2.1 p.2.2.2.2.2.2 = some (r0, r1) }) (fun p => inv_s_l9Near_1 v0_3 v0_4 x5 x8 p.1.1 p.1.2.1 p.1.2.2.1 p.1.2.2.2.1 p.1.2.2.2.2.1 p.1.2.2.2.2.2.1 p.1.2.2.2.2.2.2) ?_ ?_
      · skip
        refine tri_seq ?_
        refine tri_region ?_
        refine s_mv (.inl rfl) (by conv => lhs; whnf) rfl rfl rfl ?_
        refine bnd2_elim h fun x11 x12 q13 h => ?_
        refine s_callZ (kb := []) (ns := [(1000, 0)]) (v := .sc (.bool x11)) rfl rfl cl94 (ws_l1Once x9 2 x11 x12 q13) rfl (.cons (.ptrOwn rfl) (.cons (.free rfl) .nil)) ⟨⟨_, rfl, rfl⟩, trivial⟩ (memCons (allFree_one rfl) memNil) (List.nodup_cons.2 ⟨List.not_mem_nil, .nil⟩) memNil trivial rfl trivial (memCons (allFree_one rfl) memNil) rfl rfl rfl rfl rfl rfl ?_
        refine rt_nil ?_
        refine tri_cond rfl (fun c14 => ?_) (fun c14 => ?_)
        · replace h := cond_t h c14
          refine tri_draw mixed ?_
          refine s_fieldAddr rfl rfl fd36_0 rfl rfl rfl rfl ?_
          refine s_load rfl rfl rfl rfl ty9 rfl (.inr rfl) (by conv => lhs; whnf) rfl rfl rfl ?_
          refine s_fieldAddr rfl rfl fd36_2 rfl rfl rfl rfl ?_
          refine s_load rfl rfl rfl rfl ty3 rfl (.inr rfl) (by conv => lhs; whnf) rfl rfl rfl ?_
          refine s_mv (.inl rfl) (by conv => lhs; whnf) rfl rfl rfl ?_
          refine bnd2_elim h fun x15 x16 q17 h => ?_
          refine s_callZ (kb := []) (ns := [(1000, 0)]) (v := .sc (.int .i64 x15)) rfl rfl cl84 (ws_l1Below x12 3 x15 x16 q17) rfl (.cons (.ptrOwn rfl) (.cons (.free rfl) .nil)) ⟨⟨_, rfl, rfl⟩, trivial⟩ (memCons (allFree_one rfl) memNil) (List.nodup_cons.2 ⟨List.not_mem_nil, .nil⟩) memNil trivial rfl trivial (memCons (allFree_one rfl) memNil) rfl rfl rfl rfl rfl rfl ?_
          refine s_build (cells' := [.sc (.string x8), .sc (.int .i64 1), .sc (.int .i64 x5.ttl), .sc (.int .i64 x15), .sc (.string (⟨#[]⟩ : ByteArray)), .sc (.string (⟨#[]⟩ : ByteArray))]) rfl stc36 rfl rfl rfl rfl rfl rfl rfl ?_
          refine s_storeB rfl rfl rfl ty36 rfl rfl rfl rfl rfl ?_
          refine rt_nil ⟨by kernel_rfl, ?_⟩
          refine Exists.intro ⟨(x16.b, x16.i, x16.h, 1, x15, (⟨#[]⟩ : ByteArray), (⟨#[]⟩ : ByteArray)), h⟩ ?_
          refine entX [((1000, 0), ⟨107, 3, [[.lst 1 (List.map byteV x16.b), .sc (.int .i64 x16.i), .sc (.int .i64 x16.h)]], false, false⟩, some (1000, 0)), ((2003, 0), ⟨36, 6, List.map recV v0_3, false, true⟩, some (2003, 0)), ((5, 0), ⟨36, 6, [[.sc (.string x8), .sc (.int .i64 1), .sc (.int .i64 x5.ttl), .sc (.int .i64 x15), .sc (.string (⟨#[]⟩ : ByteArray)), .sc (.string (⟨#[]⟩ : ByteArray))]], false, true⟩, some (5, 0))] [] ⟨⟨rfl, _, rfl, rfl, rfl, rfl, id, rowsCv_one (.cons (.free rfl) (.cons (.free rfl) (.cons (.free rfl) .nil))), rowsZ_one rfl⟩, ⟨rfl, _, rfl, rfl, rfl, rfl, id, rowsCv_eq rfl (allFree_map recV_free), rowsZ_map recV_len⟩, ⟨rfl, _, rfl, rfl, rfl, rfl, id, rowsCv_one (.cons (.free rfl) (.cons (.free rfl) (.cons (.free rfl) (.cons (.free rfl) (.cons (.free rfl) (.cons (.free rfl) .nil)))))), rowsZ_one rfl⟩, trivial⟩ trivial rfl rfl ?_
          exact ⟨(.ptr rfl), (.ref rfl), (.free rfl), (.ptr rfl), trivial⟩
        · replace h := cond_f h c14
          refine tri_skip ?_
          refine Exists.intro ⟨(x12.b, x12.i, x12.h, x5.ty, x5.n, x5.host, x5.text), h⟩ ?_
          refine entX [((1000, 0), ⟨107, 3, [[.lst 1 (List.map byteV x12.b), .sc (.int .i64 x12.i), .sc (.int .i64 x12.h)]], false, false⟩, some (1000, 0)), ((2003, 0), ⟨36, 6, List.map recV v0_3, false, true⟩, some (2003, 0)), ((5, 0), ⟨36, 6, [[.sc (.string x8), .sc (.int .i64 x5.ty), .sc (.int .i64 x5.ttl), .sc (.int .i64 x5.n), .sc (.string x5.host), .sc (.string x5.text)]], false, true⟩, some (5, 0))] [] ⟨⟨rfl, _, rfl, rfl, rfl, rfl, id, rowsCv_one (.cons (.free rfl) (.cons (.free rfl) (.cons (.free rfl) .nil))), rowsZ_one rfl⟩, ⟨rfl, _, rfl, rfl, rfl, rfl, id, rowsCv_eq rfl (allFree_map recV_free), rowsZ_map recV_len⟩, ⟨rfl, _, rfl, rfl, rfl, rfl, id, rowsCv_one (.cons (.free rfl) (.cons (.free rfl) (.cons (.free rfl) (.cons (.free rfl) (.cons (.free rfl) (.cons (.free rfl) .nil)))))), rowsZ_one rfl⟩, trivial⟩ trivial rfl rfl ?_
          exact ⟨(.ptr rfl), (.ref rfl), (.free rfl), (.ptr rfl), trivial⟩
      · rintro ⟨⟨j1_0, j1_1, j1_2, j1_3, j1_4, j1_5, j1_6⟩, h⟩
        replace h : s_l9Near_j1 v0_3 v0_4 x5 x8 (s_l9Near_l0 f0) j1_0 j1_1 j1_2 j1_3 j1_4 j1_5 j1_6 = some (r0, r1) := h
        unfold s_l9Near_j1 at h
        show Tri _ _ _ (inv_s_l9Near_1 v0_3 v0_4 x5 x8 j1_0 j1_1 j1_2 j1_3 j1_4 j1_5 j1_6)
        refine tri_region ?_
        refine s_mv (.inl rfl) (by conv => lhs; whnf) rfl rfl rfl ?_
        refine s_loadR rfl rfl rfl rfl ty36 rfl rfl rfl ?_
        refine s_buildSlice (rows' := List.map recV [Rec.mk x8 j1_3 x5.ttl j1_4 j1_5 j1_6]) rfl rfl rfl sl27 zc36 rfl rfl rfl rfl rfl rfl rfl rfl rfl ?_
        refine grd_elim h fun g11 h => ?_
        refine s_appL rfl rfl rfl sl27 zc36 rfl rfl rfl rfl rfl rfl (src_refL rfl rfl) g11 rfl rfl ?_
        refine s_mv (.inr rfl) (by conv => lhs; whnf) rfl rfl rfl ?_
        refine rt_nil ?_
        refine tri_region ?_
        refine s_mv (.inl rfl) (by conv => lhs; whnf) rfl rfl rfl ?_
        refine grd_elim h fun g12 h => ?_
        refine s_subI rfl rfl rfl rfl g12 rfl rfl rfl ?_
        refine s_mv (.inr rfl) (by conv => lhs; whnf) rfl rfl rfl ?_
        refine rt_nil ?_
        refine Exists.intro ⟨(f0, j1_0, j1_1, j1_2, v0_3 ++ [Rec.mk x8 j1_3 x5.ttl j1_4 j1_5 j1_6], v0_4 - 1), h⟩ (And.intro (Nat.lt_succ_self _) ?_)
        refine entX [((1000, 0), ⟨107, 3, [[.lst 1 (List.map byteV j1_0), .sc (.int .i64 j1_1), .sc (.int .i64 j1_2)]], false, false⟩, some (1000, 0)), ((2003, 0), ⟨36, 6, List.map recV (v0_3 ++ [Rec.mk x8 j1_3 x5.ttl j1_4 j1_5 j1_6]), false, true⟩, some (31, 0))] [] ⟨⟨rfl, _, rfl, rfl, rfl, rfl, id, rowsCv_one (.cons (.free rfl) (.cons (.free rfl) (.cons (.free rfl) .nil))), rowsZ_one rfl⟩, ⟨rfl, _, rfl, rfl, rfl, rfl, id, rowsCv_eq rfl (allFree_map recV_free), rowsZ_map recV_len⟩, trivial⟩ trivial rfl rfl ?_
        exact ⟨(.ptr rfl), (.ref rfl), (.free rfl), trivial⟩
    · replace h := cond_f h c4
      refine tri_exit ?_
      refine tri_seq ?_
      refine tri_region ?_
      refine s_mv (.inl rfl) (by conv => lhs; whnf) rfl rfl rfl ?_
      refine s_mv (.inr rfl) (by conv => lhs; whnf) rfl rfl rfl ?_
      refine rt_nil ?_
      refine tri_ret ?_
      have e0 := (some2 h).1; have e1 := (some2 h).2; subst e0; subst e1
      exact endY (v' := .ref (2000, 0) 0 v0_3.length) [((2000, 0), ⟨36, 6, List.map recV v0_3, false, true⟩, some (2003, 0)), ((1000, 0), ⟨107, 3, [[.lst 1 (List.map byteV v0_0), .sc (.int .i64 v0_1), .sc (.int .i64 v0_2)]], false, false⟩, some (1000, 0))] [] (rvC (resTmp rfl) rvN) ⟨⟨rfl, _, rfl, rfl, rfl, rfl, id, rowsCv_eq rfl (allFree_map recV_free), rowsZ_map recV_len⟩, ⟨rfl, _, rfl, rfl, rfl, rfl, id, rowsCv_one (.cons (.free rfl) (.cons (.free rfl) (.cons (.free rfl) .nil))), rowsZ_one rfl⟩, trivial⟩ trivial rfl rfl (by kernel_rfl) (by simp only [V.mat, V.mat1, V.mat0, matL, matT, List.length_map]) (.ref rfl)

/- spec.DrawKeysOf -/

set_option maxRecDepth 4000 in
set_option maxHeartbeats 800000 in
theorem ws_DrawKeysOf (p0 : List Int) (r0 : List Rec) (h : s_DrawKeysOf p0 = some r0) : Runs Try.prog 54 [.lst 1 (List.map byteV p0)] [] (.own 36 6 (List.map recV r0)) [] := by
  unfold s_DrawKeysOf at h
  refine runsR [.tmp 2] Try.func54 rfl rfl rfl rfl ?_
  rw [Try.ntmps54]
  refine tri_seq ?_
  refine tri_region ?_
  refine s_mv (.inr rfl) (v := .nils) rfl rfl rfl rfl ?_
  refine rt_nil ?_
  refine tri_seq ?_
  refine tri_region ?_
  refine s_mv (.inl rfl) (by conv => lhs; whnf) rfl rfl rfl ?_
  refine bnd1_elim h fun x1 q2 h => ?_
  refine s_callZ (kb := []) (ns := []) (v := .ptr (5, 0) 0 0) rfl rfl cl80 (ws_l1New p0 x1 q2) rfl (.cons (.free rfl) .nil) trivial memNil .nil memNil trivial rfl ⟨(allFree_one rfl), trivial⟩ memNil rfl (by simp only [V.mat, V.mat1, V.mat0, matL, matT, List.length_map]) rfl rfl rfl rfl ?_
  refine s_mv (.inr rfl) (by conv => lhs; whnf) rfl rfl rfl ?_
  refine rt_nil ?_
  refine tri_seq ?_
  refine tri_region ?_
  refine s_mv (.inl rfl) (by conv => lhs; whnf) rfl rfl rfl ?_
  refine bnd2_elim h fun x3 x4 q5 h => ?_
  refine s_callZ (kb := []) (ns := [(5, 0)]) (v := .ref (7, 0) 0 x3.length) rfl rfl cl81 (ws_l9Near x1 x3 x4 q5) rfl (.cons (.ptrOwn rfl) .nil) ⟨⟨_, rfl, rfl⟩, trivial⟩ (memCons (allFree_one rfl) memNil) (List.nodup_cons.2 ⟨List.not_mem_nil, .nil⟩) memNil trivial rfl ⟨(allFree_map recV_free), trivial⟩ (memCons (allFree_one rfl) memNil) rfl (by simp only [V.mat, V.mat1, V.mat0, matL, matT, List.length_map]) rfl rfl rfl rfl ?_
  refine s_mv (.inr rfl) (by conv => lhs; whnf) rfl rfl rfl ?_
  refine rt_nil ?_
  refine tri_ret ?_
  have e0 := (some1 h); subst e0
  exact endY (v' := .ref (2000, 0) 0 x3.length) [((2000, 0), ⟨36, 6, List.map recV x3, false, true⟩, some (7, 0))] [] (rvC (resTmp rfl) rvN) ⟨⟨rfl, _, rfl, rfl, rfl, rfl, id, rowsCv_eq rfl (allFree_map recV_free), rowsZ_map recV_len⟩, trivial⟩ trivial rfl rfl (by kernel_rfl) (by simp only [V.mat, V.mat1, V.mat0, matL, matT, List.length_map]) (.ref rfl)

/- spec.DrawSetOf -/

set_option maxRecDepth 4000 in
set_option maxHeartbeats 800000 in
theorem ws_DrawSetOf (p0 : List Int) (r0 : List Rec) (r1 : ByteArray) (r2 : Int) (h : s_DrawSetOf p0 = some (r0, r1, r2)) : Runs Try.prog 55 [.lst 1 (List.map byteV p0)] [] (.tup [.own 36 6 (List.map recV r0), .sc (.string r1), .sc (.int .i64 r2)]) [] := by
  unfold s_DrawSetOf at h
  refine runsR [.tmp 2, .tmp 3, .tmp 4] Try.func55 rfl rfl rfl rfl ?_
  rw [Try.ntmps55]
  refine tri_seq ?_
  refine tri_region ?_
  refine s_mv (.inr rfl) (v := .nils) rfl rfl rfl rfl ?_
  refine s_mv (.inr rfl) (v := .sc (.string (⟨#[]⟩ : ByteArray))) rfl rfl rfl rfl ?_
  refine s_mv (.inr rfl) (v := .sc (.int .i64 0)) rfl rfl rfl rfl ?_
  refine rt_nil ?_
  refine tri_seq ?_
  refine tri_region ?_
  refine s_mv (.inl rfl) (by conv => lhs; whnf) rfl rfl rfl ?_
  refine bnd1_elim h fun x1 q2 h => ?_
  refine s_callZ (kb := []) (ns := []) (v := .ptr (8, 0) 0 0) rfl rfl cl80 (ws_l1New p0 x1 q2) rfl (.cons (.free rfl) .nil) trivial memNil .nil memNil trivial rfl ⟨(allFree_one rfl), trivial⟩ memNil rfl (by simp only [V.mat, V.mat1, V.mat0, matL, matT, List.length_map]) rfl rfl rfl rfl ?_
  refine s_mv (.inr rfl) (by conv => lhs; whnf) rfl rfl rfl ?_
  refine rt_nil ?_
  refine tri_seq ?_
  refine tri_region ?_
  refine s_mv (.inl rfl) (by conv => lhs; whnf) rfl rfl rfl ?_
  refine bnd2_elim h fun x3 x4 q5 h => ?_
  refine s_callZ (kb := []) (ns := [(8, 0)]) (v := .ref (10, 0) 0 x3.length) rfl rfl cl81 (ws_l9Near x1 x3 x4 q5) rfl (.cons (.ptrOwn rfl) .nil) ⟨⟨_, rfl, rfl⟩, trivial⟩ (memCons (allFree_one rfl) memNil) (List.nodup_cons.2 ⟨List.not_mem_nil, .nil⟩) memNil trivial rfl ⟨(allFree_map recV_free), trivial⟩ (memCons (allFree_one rfl) memNil) rfl (by simp only [V.mat, V.mat1, V.mat0, matL, matT, List.length_map]) rfl rfl rfl rfl ?_
  refine s_mv (.inr rfl) (by conv => lhs; whnf) rfl rfl rfl ?_
  refine rt_nil ?_
  refine tri_seq ?_
  refine tri_region ?_
  refine s_mv (.inl rfl) (by conv => lhs; whnf) rfl rfl rfl ?_
  refine s_mv (.inl rfl) (by conv => lhs; whnf) rfl rfl rfl ?_
  refine s_buildSlice (rows' := List.map strV [(⟨#[101, 120, 46, 99, 111, 109]⟩ : ByteArray), (⟨#[110, 115, 46, 101, 120, 46, 99, 111, 109]⟩ : ByteArray), (⟨#[99, 111, 109]⟩ : ByteArray)]) rfl rfl rfl sl54 zc9 rfl rfl rfl rfl rfl rfl rfl rfl rfl ?_
  refine bnd2_elim h fun x6 x7 q8 h => ?_
  refine s_callZ (kb := [(13, 0)]) (ns := [(8, 0)]) (v := .sc (.string x6)) rfl rfl cl82 (ws_l1Str x4 ([(⟨#[101, 120, 46, 99, 111, 109]⟩ : ByteArray), (⟨#[110, 115, 46, 101, 120, 46, 99, 111, 109]⟩ : ByteArray), (⟨#[99, 111, 109]⟩ : ByteArray)]) x6 x7 q8) rfl (.cons (.ptrOwn rfl) (.cons (lendL rfl (.head _) rfl strV_free strV_len) .nil)) ⟨⟨_, rfl, rfl⟩, trivial⟩ (memCons (allFree_one rfl) memNil) (List.nodup_cons.2 ⟨List.not_mem_nil, .nil⟩) (by decide) ⟨⟨_, rfl, rfl⟩, trivial⟩ rfl trivial (memCons (allFree_one rfl) memNil) rfl rfl rfl rfl rfl rfl ?_
  refine s_mv (.inl rfl) (by conv => lhs; whnf) rfl rfl rfl ?_
  refine bnd2_elim h fun x9 x10 q11 h => ?_
  refine s_callZ (kb := []) (ns := [(8, 0)]) (v := .sc (.int .i64 x9)) rfl rfl cl83 (ws_l5Type x7 x9 x10 q11) rfl (.cons (.ptrOwn rfl) .nil) ⟨⟨_, rfl, rfl⟩, trivial⟩ (memCons (allFree_one rfl) memNil) (List.nodup_cons.2 ⟨List.not_mem_nil, .nil⟩) memNil trivial rfl trivial (memCons (allFree_one rfl) memNil) rfl rfl rfl rfl rfl rfl ?_
  refine s_mv (.inr rfl) (by conv => lhs; whnf) rfl rfl rfl ?_
  refine s_mv (.inr rfl) (by conv => lhs; whnf) rfl rfl rfl ?_
  refine s_mv (.inr rfl) (by conv => lhs; whnf) rfl rfl rfl ?_
  refine rt_nil ?_
  refine tri_ret ?_
  have e0 := (some3 h).1; have e1 := (some3 h).2.1; have e2 := (some3 h).2.2; subst e0; subst e1; subst e2
  exact endY (v' := .tup [.ref (2000, 100) 0 x3.length, .sc (.string x6), .sc (.int .i64 x9)]) [((2000, 100), ⟨36, 6, List.map recV x3, false, true⟩, some (10, 0))] [] (rvC (resTmp rfl) (rvC (resTmp rfl) (rvC (resTmp rfl) rvN))) ⟨⟨rfl, _, rfl, rfl, rfl, rfl, id, rowsCv_eq rfl (allFree_map recV_free), rowsZ_map recV_len⟩, trivial⟩ trivial rfl rfl (by kernel_rfl) (by simp only [V.mat, V.mat1, V.mat0, matL, matT, List.length_map]) (CvL.tup (.cons (.ref rfl) (.cons (.free rfl) (.cons (.free rfl) .nil))))

/- spec.DrawWithTtl -/

set_option maxRecDepth 4000 in
set_option maxHeartbeats 800000 in
theorem ws_DrawWithTtl (p0 : List Int) (r0 : List Rec) (r1 : Int) (h : s_DrawWithTtl p0 = some (r0, r1)) : Runs Try.prog 56 [.lst 1 (List.map byteV p0)] [] (.tup [.own 36 6 (List.map recV r0), .sc (.int .i64 r1)]) [] := by
  unfold s_DrawWithTtl at h
  refine runsR [.tmp 2, .tmp 3] Try.func56 rfl rfl rfl rfl ?_
  rw [Try.ntmps56]
  refine tri_seq ?_
  refine tri_region ?_
  refine s_mv (.inr rfl) (v := .nils) rfl rfl rfl rfl ?_
  refine s_mv (.inr rfl) (v := .sc (.int .i64 0)) rfl rfl rfl rfl ?_
  refine rt_nil ?_
  refine tri_seq ?_
  refine tri_region ?_
  refine s_mv (.inl rfl) (by conv => lhs; whnf) rfl rfl rfl ?_
  refine bnd1_elim h fun x1 q2 h => ?_
  refine s_callZ (kb := []) (ns := []) (v := .ptr (6, 0) 0 0) rfl rfl cl80 (ws_l1New p0 x1 q2) rfl (.cons (.free rfl) .nil) trivial memNil .nil memNil trivial rfl ⟨(allFree_one rfl), trivial⟩ memNil rfl (by simp only [V.mat, V.mat1, V.mat0, matL, matT, List.length_map]) rfl rfl rfl rfl ?_
  refine s_mv (.inr rfl) (by conv => lhs; whnf) rfl rfl rfl ?_
  refine rt_nil ?_
  refine tri_seq ?_
  refine tri_region ?_
  refine s_mv (.inl rfl) (by conv => lhs; whnf) rfl rfl rfl ?_
  refine bnd2_elim h fun x3 x4 q5 h => ?_
  refine s_callZ (kb := []) (ns := [(6, 0)]) (v := .ref (8, 0) 0 x3.length) rfl rfl cl81 (ws_l9Near x1 x3 x4 q5) rfl (.cons (.ptrOwn rfl) .nil) ⟨⟨_, rfl, rfl⟩, trivial⟩ (memCons (allFree_one rfl) memNil) (List.nodup_cons.2 ⟨List.not_mem_nil, .nil⟩) memNil trivial rfl ⟨(allFree_map recV_free), trivial⟩ (memCons (allFree_one rfl) memNil) rfl (by simp only [V.mat, V.mat1, V.mat0, matL, matT, List.length_map]) rfl rfl rfl rfl ?_
  refine s_mv (.inl rfl) (by conv => lhs; whnf) rfl rfl rfl ?_
  refine bnd2_elim h fun x6 x7 q8 h => ?_
  refine s_callZ (kb := []) (ns := [(6, 0)]) (v := .sc (.int .i64 x6)) rfl rfl cl84 (ws_l1Below x4 9 x6 x7 q8) rfl (.cons (.ptrOwn rfl) (.cons (.free rfl) .nil)) ⟨⟨_, rfl, rfl⟩, trivial⟩ (memCons (allFree_one rfl) memNil) (List.nodup_cons.2 ⟨List.not_mem_nil, .nil⟩) memNil trivial rfl trivial (memCons (allFree_one rfl) memNil) rfl rfl rfl rfl rfl rfl ?_
  refine s_mv (.inr rfl) (by conv => lhs; whnf) rfl rfl rfl ?_
  refine s_mv (.inr rfl) (by conv => lhs; whnf) rfl rfl rfl ?_
  refine rt_nil ?_
  refine tri_ret ?_
  have e0 := (some2 h).1; have e1 := (some2 h).2; subst e0; subst e1
  exact endY (v' := .tup [.ref (2000, 100) 0 x3.length, .sc (.int .i64 x6)]) [((2000, 100), ⟨36, 6, List.map recV x3, false, true⟩, some (8, 0))] [] (rvC (resTmp rfl) (rvC (resTmp rfl) rvN)) ⟨⟨rfl, _, rfl, rfl, rfl, rfl, id, rowsCv_eq rfl (allFree_map recV_free), rowsZ_map recV_len⟩, trivial⟩ trivial rfl rfl (by kernel_rfl) (by simp only [V.mat, V.mat1, V.mat0, matL, matT, List.length_map]) (CvL.tup (.cons (.ref rfl) (.cons (.free rfl) .nil)))

/- impl.Quest] -/
def inv_slices_Index_Quest_0 (p0 : List Quest) (p1 : Quest) (v0_0 : Nat) : St := mkT 19 [(0, .lst 2 (List.map questV p0)), (3, .ptr (3, 0) 0 0), (7, .sc (.int .i64 (p0.length : Int))), (8, .sc (.int .i64 (v0_0 : Int)))] [((3, 0), some ⟨70, 2, [[.sc (.string p1.name), .sc (.int .i64 p1.ty)]], false, true⟩)]
set_option maxRecDepth 4000 in
set_option maxHeartbeats 800000 in
theorem wslices_Index_Quest (p0 : List Quest) (p1 : Quest) (r0 : Int) (h : slices_Index_Quest p0 p1 = some r0) : Runs Try.prog 92 [.lst 2 (List.map questV p0), .agg (questV p1)] [] (.sc (.int .i64 r0)) [] := by
  unfold slices_Index_Quest at h
  refine runsR [.tmp 4] Try.func92 rfl rfl rfl rfl ?_
  rw [Try.ntmps92]
  refine tri_seq ?_
  refine tri_region ?_
  refine s_box rfl rfl rfl rfl rfl rfl rfl ?_
  refine s_mv (.inr rfl) (v := .sc (.int .i64 0)) rfl rfl rfl rfl ?_
  refine rt_nil ?_
  refine tri_seq ?_
  refine tri_seq ?_
  refine tri_region ?_
  refine s_mv (.inl rfl) (by conv => lhs; whnf) rfl rfl rfl ?_
  refine s_lenL rfl sl58 rfl rfl rfl rfl ?_
  refine s_mv (.inl rfl) (v := .sc (.int .i64 0)) rfl rfl rfl rfl ?_
  refine rt_nil ?_
  refine tri_block ?_
  refine tri_lstM 0 rfl (fun hl0 => ?_)
  refine tri_loop (ι := { p : (List Quest) × Nat // p0.drop p.2 = p.1 ∧ slices_Index_Quest_l0 p1 p.1 p.2 = some r0 }) (fun p => inv_slices_Index_Quest_0 p0 p1 p.1.2) (fun p => p.1.1.length) ⟨(p0, 0), rfl, h⟩ ?_ ?_
  · skip
    refine entX [((3, 0), ⟨70, 2, [[.sc (.string p1.name), .sc (.int .i64 p1.ty)]], false, true⟩, some (3, 0))] [] ⟨⟨rfl, _, rfl, rfl, rfl, rfl, id, rowsCv_one (.cons (.free rfl) (.cons (.free rfl) .nil)), rowsZ_one rfl⟩, trivial⟩ trivial rfl rfl ?_
    exact ⟨(.free rfl), (.ptr rfl), (.free rfl), (.free rfl), trivial⟩
  · rintro ⟨⟨lrs0, v0_0⟩, hd0, h⟩
    replace hd0 : p0.drop v0_0 = lrs0 := hd0
    replace h : slices_Index_Quest_l0 p1 lrs0 v0_0 = some r0 := h
    show Tri _ _ _ (inv_slices_Index_Quest_0 p0 p1 v0_0)
    refine tri_seq ?_
    refine tri_region ?_
    refine s_of (st_lss rfl rfl rfl) rfl rfl rfl rfl ?_
    refine rt_nil ?_
    refine tri_seq ?_
    refine tri_cond rfl (fun c1 => ?_) (fun c1 => ?_)
    · refine drop_elim hd0 c1 fun e0 rs0 he hx0 hn0 => ?_
      subst he
      rw [slices_Index_Quest_l0] at h
      refine tri_skip ?_
      refine tri_seq ?_
      refine tri_block ?_
      refine tri_seq ?_
      refine tri_region ?_
      refine s_mv (.inl rfl) (by conv => lhs; whnf) rfl rfl rfl ?_
      refine s_mv (.inr rfl) (by conv => lhs; whnf) rfl rfl rfl ?_
      refine rt_nil ?_
      refine tri_seq ?_
      refine tri_draw mixed ?_
      refine s_loadR rfl rfl rfl rfl ty70 rfl rfl rfl ?_
      refine s_mv (.inl rfl) (by conv => lhs; whnf) rfl rfl rfl ?_
      refine s_mv (.inl rfl) (by conv => lhs; whnf) rfl rfl rfl ?_
      refine s_indexF (i := v0_0) rfl rfl rfl sl58 (get_ltM hx0) rfl rfl rfl ?_
      refine s_loadFR rfl rfl (rowG hx0) ty70 rfl rfl rfl ?_
      refine s_eqStruct (r' := (decide (p1.name = e0.name) && (decide (p1.ty = e0.ty) && true))) rfl rfl rfl fk70 rfl rfl rfl rfl rfl ?_
      refine rt_nil ⟨by kernel_rfl, ?_⟩
      refine tri_cond rfl (fun c2 => ?_) (fun c2 => ?_)
      · replace h := cond_t h c2
        refine tri_seq ?_
        refine tri_region ?_
        refine s_mv (.inl rfl) (by conv => lhs; whnf) rfl rfl rfl ?_
        refine s_mv (.inr rfl) (by conv => lhs; whnf) rfl rfl rfl ?_
        refine rt_nil ?_
        refine tri_ret ?_
        have e0 := (some1 h); subst e0
        exact endY [] [] (rvC (resTmp rfl) rvN) trivial trivial rfl rfl rfl rfl (.free rfl)
      · replace h := cond_f h c2
        refine tri_skip ?_
        refine tri_region ?_
        refine s_inc (a := v0_0) (b := 1) rfl rfl rfl rfl (by have := get_lt hx0; have := hl0; omega) rfl rfl rfl ?_
        refine s_mv (.inl rfl) (by conv => lhs; whnf) rfl rfl rfl ?_
        refine rt_nil ?_
        refine Exists.intro ⟨(rs0, (v0_0 + 1)), hn0, h⟩ (And.intro (Nat.lt_succ_self _) ?_)
        refine entX [((3, 0), ⟨70, 2, [[.sc (.string p1.name), .sc (.int .i64 p1.ty)]], false, true⟩, some (3, 0))] [] ⟨⟨rfl, _, rfl, rfl, rfl, rfl, id, rowsCv_one (.cons (.free rfl) (.cons (.free rfl) .nil)), rowsZ_one rfl⟩, trivial⟩ trivial rfl rfl ?_
        exact ⟨(.free rfl), (.ptr rfl), (.free rfl), (.free rfl), trivial⟩
    · have he := drop_f hd0 c1; subst he
      rw [slices_Index_Quest_l0] at h
      refine tri_exit ?_
      refine tri_seq ?_
      refine tri_region ?_
      refine s_mv (.inr rfl) (v := .sc (.int .i64 (-1))) rfl rfl rfl rfl ?_
      refine rt_nil ?_
      refine tri_ret ?_
      have e0 := (some1 h); subst e0
      exact endY [] [] (rvC (resTmp rfl) rvN) trivial trivial rfl rfl rfl rfl (.free rfl)

/- impl.Quest] -/

set_option maxRecDepth 4000 in
set_option maxHeartbeats 800000 in
theorem wslices_Contains_Quest (p0 : List Quest) (p1 : Quest) (r0 : Bool) (h : slices_Contains_Quest p0 p1 = some r0) : Runs Try.prog 78 [.lst 2 (List.map questV p0), .agg (questV p1)] [] (.sc (.bool r0)) [] := by
  unfold slices_Contains_Quest at h
  refine runsR [.tmp 4] Try.func78 rfl rfl rfl rfl ?_
  rw [Try.ntmps78]
  refine tri_seq ?_
  refine tri_region ?_
  refine s_box rfl rfl rfl rfl rfl rfl rfl ?_
  refine s_mv (.inr rfl) (v := .sc (.bool false)) rfl rfl rfl rfl ?_
  refine rt_nil ?_
  refine tri_seq ?_
  refine tri_region ?_
  refine s_mv (.inl rfl) (by conv => lhs; whnf) rfl rfl rfl ?_
  refine s_loadR rfl rfl rfl rfl ty70 rfl rfl rfl ?_
  refine bnd1_elim h fun x1 q2 h => ?_
  refine s_callN (kb := []) (ns := []) (v := .sc (.int .i64 x1)) rfl rfl cl92 (wslices_Index_Quest p0 p1 x1 q2) rfl (.cons (.free rfl) (.cons (relAgg rfl) .nil)) trivial memNil .nil memNil rfl trivial memNil rfl rfl rfl rfl rfl rfl ?_
  refine s_of (st_geq rfl rfl rfl) rfl rfl rfl rfl ?_
  refine s_mv (.inr rfl) (by conv => lhs; whnf) rfl rfl rfl ?_
  refine rt_nil ?_
  refine tri_ret ?_
  have e0 := (some1 h); subst e0
  exact endY [] [] (rvC (resTmp rfl) rvN) trivial trivial rfl rfl rfl rfl (.free rfl)

/- impl.KeysOf -/
def inv_i_KeysOf_0 (p0 : List Rec) (v0_0 : List Quest) (v0_1 : Nat) : St := mkT 29 [(3, .ref (2003, 0) 0 v0_0.length), (8, .lst 6 (List.map recV p0)), (9, .sc (.int .i64 (p0.length : Int))), (10, .sc (.int .i64 (v0_1 : Int)))] [((2003, 0), some ⟨70, 2, List.map questV v0_0, false, true⟩)]
set_option maxRecDepth 4000 in
set_option maxHeartbeats 800000 in
theorem wi_KeysOf (p0 : List Rec) (r0 : List Quest) (h : i_KeysOf p0 = some r0) : Runs Try.prog 49 [.lst 6 (List.map recV p0)] [] (.own 70 2 (List.map questV r0)) [] := by
  unfold i_KeysOf at h
  refine runsR [.tmp 2] Try.func49 rfl rfl rfl rfl ?_
  rw [Try.ntmps49]
  refine tri_seq ?_
  refine tri_region ?_
  refine s_mv (.inr rfl) (v := .nils) rfl rfl rfl rfl ?_
  refine rt_nil ?_
  refine tri_seq ?_
  refine tri_region ?_
  refine s_buildSlice (rows' := List.map questV ([] : List Quest)) rfl rfl rfl sl58 zc70 rfl rfl rfl rfl rfl rfl rfl rfl rfl ?_
  refine s_mv (.inr rfl) (by conv => lhs; whnf) rfl rfl rfl ?_
  refine rt_nil ?_
  refine tri_seq ?_
  refine tri_seq ?_
  refine tri_region ?_
  refine s_mv (.inl rfl) (by conv => lhs; whnf) rfl rfl rfl ?_
  refine s_lenL rfl sl27 rfl rfl rfl rfl ?_
  refine s_mv (.inl rfl) (v := .sc (.int .i64 0)) rfl rfl rfl rfl ?_
  refine rt_nil ?_
  refine tri_block ?_
  refine tri_lstM 0 rfl (fun hl0 => ?_)
  refine tri_loop (ι := { p : (List Rec) × (List Quest) × Nat // p0.drop p.2.2 = p.1 ∧ i_KeysOf_l0 p.1 p.2.1 p.2.2 = some r0 }) (fun p => inv_i_KeysOf_0 p0 p.1.2.1 p.1.2.2) (fun p => p.1.1.length) ⟨(p0, ([] : List Quest), 0), rfl, h⟩ ?_ ?_
  · skip
    refine entX [((2003, 0), ⟨70, 2, List.map questV ([] : List Quest), false, true⟩, some (7, 0))] [] ⟨⟨rfl, _, rfl, rfl, rfl, rfl, id, rowsCv_eq rfl (allFree_map questV_free), rowsZ_map questV_len⟩, trivial⟩ trivial rfl rfl ?_
    exact ⟨(.ref rfl), (.free rfl), (.free rfl), (.free rfl), trivial⟩
  · rintro ⟨⟨lrs0, v0_0, v0_1⟩, hd0, h⟩
    replace hd0 : p0.drop v0_1 = lrs0 := hd0
    replace h : i_KeysOf_l0 lrs0 v0_0 v0_1 = some r0 := h
    show Tri _ _ _ (inv_i_KeysOf_0 p0 v0_0 v0_1)
    refine tri_seq ?_
    refine tri_region ?_
    refine s_of (st_lss rfl rfl rfl) rfl rfl rfl rfl ?_
    refine rt_nil ?_
    refine tri_seq ?_
    refine tri_cond rfl (fun c1 => ?_) (fun c1 => ?_)
    · refine drop_elim hd0 c1 fun e0 rs0 he hx0 hn0 => ?_
      subst he
      rw [i_KeysOf_l0] at h
      refine tri_skip ?_
      refine tri_seq ?_
      refine tri_block ?_
      refine tri_seq ?_
      refine tri_region ?_
      refine s_indexF (i := v0_1) rfl rfl rfl sl27 (get_ltM hx0) rfl rfl rfl ?_
      refine s_loadFR rfl rfl (rowG hx0) ty36 rfl rfl rfl ?_
      refine s_alloc rfl rfl rfl zc36 rfl rfl rfl rfl rfl ?_
      refine s_storeB rfl rfl rfl ty36 rfl rfl rfl rfl rfl ?_
      refine rt_nil ?_
      refine tri_seq ?_
      refine tri_region ?_
      refine s_fieldAddr rfl rfl fd36_0 rfl rfl rfl rfl ?_
      refine s_load rfl rfl rfl rfl ty9 rfl (.inr rfl) (by conv => lhs; whnf) rfl rfl rfl ?_
      refine s_fieldAddr rfl rfl fd36_1 rfl rfl rfl rfl ?_
      refine s_load rfl rfl rfl rfl ty3 rfl (.inr rfl) (by conv => lhs; whnf) rfl rfl rfl ?_
      refine s_build (cells' := [.sc (.string e0.name), .sc (.int .i64 e0.ty)]) rfl stc70 rfl rfl rfl rfl rfl rfl rfl ?_
      refine s_alloc rfl rfl rfl zc70 rfl rfl rfl rfl rfl ?_
      refine s_storeB rfl rfl rfl ty70 rfl rfl rfl rfl rfl ?_
      refine rt_nil ?_
      refine tri_seq ?_
      refine tri_region ?_
      refine s_mv (.inl rfl) (by conv => lhs; whnf) rfl rfl rfl ?_
      refine s_loadR rfl rfl rfl rfl ty70 rfl rfl rfl ?_
      refine bnd1_elim h fun x2 q3 h => ?_
      refine s_callN (kb := [(2003, 0)]) (ns := []) (v := .sc (.bool x2)) rfl rfl cl78 (wslices_Contains_Quest v0_0 (Quest.mk e0.name e0.ty) x2 q3) rfl (.cons (lendL rfl (.head _) rfl questV_free questV_len) (.cons (relAgg rfl) .nil)) trivial memNil .nil (fun _ _ => List.not_mem_nil) rfl trivial memNil rfl rfl rfl rfl rfl rfl ?_
      refine s_of (st_not rfl rfl) rfl rfl rfl rfl ?_
      refine rt_nil ?_
      refine tri_cond rfl (fun c4 => ?_) (fun c4 => ?_)
      · replace h := cond_t h c4
        refine tri_region ?_
        refine s_mv (.inl rfl) (by conv => lhs; whnf) rfl rfl rfl ?_
        refine s_loadR rfl rfl rfl rfl ty70 rfl rfl rfl ?_
        refine s_buildSlice (rows' := List.map questV [Quest.mk e0.name e0.ty]) rfl rfl rfl sl58 zc70 rfl rfl rfl rfl rfl rfl rfl rfl rfl ?_
        refine grd_elim h fun g5 h => ?_
        refine s_appL rfl rfl rfl sl58 zc70 rfl rfl rfl rfl rfl rfl (src_refL rfl rfl) g5 rfl rfl ?_
        refine s_mv (.inr rfl) (by conv => lhs; whnf) rfl rfl rfl ?_
        refine rt_nil ?_
        refine tri_region ?_
        refine s_inc (a := v0_1) (b := 1) rfl rfl rfl rfl (by have := get_lt hx0; have := hl0; omega) rfl rfl rfl ?_
        refine s_mv (.inl rfl) (by conv => lhs; whnf) rfl rfl rfl ?_
        refine rt_nil ?_
        refine Exists.intro ⟨(rs0, v0_0 ++ [Quest.mk e0.name e0.ty], (v0_1 + 1)), hn0, h⟩ (And.intro (Nat.lt_succ_self _) ?_)
        refine entX [((2003, 0), ⟨70, 2, List.map questV (v0_0 ++ [Quest.mk e0.name e0.ty]), false, true⟩, some (26, 0))] [] ⟨⟨rfl, _, rfl, rfl, rfl, rfl, id, rowsCv_eq rfl (allFree_map questV_free), rowsZ_map questV_len⟩, trivial⟩ trivial rfl rfl ?_
        exact ⟨(.ref rfl), (.free rfl), (.free rfl), (.free rfl), trivial⟩
      · replace h := cond_f h c4
        refine tri_skip ?_
        refine tri_region ?_
        refine s_inc (a := v0_1) (b := 1) rfl rfl rfl rfl (by have := get_lt hx0; have := hl0; omega) rfl rfl rfl ?_
        refine s_mv (.inl rfl) (by conv => lhs; whnf) rfl rfl rfl ?_
        refine rt_nil ?_
        refine Exists.intro ⟨(rs0, v0_0, (v0_1 + 1)), hn0, h⟩ (And.intro (Nat.lt_succ_self _) ?_)
        refine entX [((2003, 0), ⟨70, 2, List.map questV v0_0, false, true⟩, some (2003, 0))] [] ⟨⟨rfl, _, rfl, rfl, rfl, rfl, id, rowsCv_eq rfl (allFree_map questV_free), rowsZ_map questV_len⟩, trivial⟩ trivial rfl rfl ?_
        exact ⟨(.ref rfl), (.free rfl), (.free rfl), (.free rfl), trivial⟩
    · have he := drop_f hd0 c1; subst he
      rw [i_KeysOf_l0] at h
      refine tri_exit ?_
      refine tri_seq ?_
      refine tri_region ?_
      refine s_mv (.inl rfl) (by conv => lhs; whnf) rfl rfl rfl ?_
      refine s_mv (.inr rfl) (by conv => lhs; whnf) rfl rfl rfl ?_
      refine rt_nil ?_
      refine tri_ret ?_
      have e0 := (some1 h); subst e0
      exact endY (v' := .ref (2000, 0) 0 v0_0.length) [((2000, 0), ⟨70, 2, List.map questV v0_0, false, true⟩, some (2003, 0))] [] (rvC (resTmp rfl) rvN) ⟨⟨rfl, _, rfl, rfl, rfl, rfl, id, rowsCv_eq rfl (allFree_map questV_free), rowsZ_map questV_len⟩, trivial⟩ trivial rfl rfl (by kernel_rfl) (by simp only [V.mat, V.mat1, V.mat0, matL, matT, List.length_map]) (.ref rfl)

/- impl.SetOf -/
def inv_i_SetOf_1 (p0 : List Rec) (p1 : ByteArray) (p2 : Int) (v0_0 : List Rec) (v0_1 : Nat) (e0 : Rec) (j1_0 : Bool) : St := mkT 33 [(1, .sc (.string p1)), (2, .sc (.int .i64 p2)), (7, .ref (2007, 0) 0 v0_0.length), (9, .ptr (9, 0) 0 0), (11, .lst 6 (List.map recV p0)), (12, .sc (.int .i64 (p0.length : Int))), (13, .sc (.int .i64 (v0_1 : Int))), (26, .sc (.bool j1_0))] [((2007, 0), some ⟨36, 6, List.map recV v0_0, false, true⟩), ((9, 0), some ⟨36, 6, [[.sc (.string e0.name), .sc (.int .i64 e0.ty), .sc (.int .i64 e0.ttl), .sc (.int .i64 e0.n), .sc (.string e0.host), .sc (.string e0.text)]], false, true⟩)]
def inv_i_SetOf_0 (p0 : List Rec) (p1 : ByteArray) (p2 : Int) (v0_0 : List Rec) (v0_1 : Nat) : St := mkT 33 [(1, .sc (.string p1)), (2, .sc (.int .i64 p2)), (7, .ref (2007, 0) 0 v0_0.length), (11, .lst 6 (List.map recV p0)), (12, .sc (.int .i64 (p0.length : Int))), (13, .sc (.int .i64 (v0_1 : Int)))] [((2007, 0), some ⟨36, 6, List.map recV v0_0, false, true⟩)]
set_option maxRecDepth 4000 in
set_option maxHeartbeats 800000 in
theorem wi_SetOf (p0 : List Rec) (p1 : ByteArray) (p2 : Int) (r0 : List Rec) (h : i_SetOf p0 p1 p2 = some r0) : Runs Try.prog 33 [.lst 6 (List.map recV p0), .sc (.string p1), .sc (.int .i64 p2)] [] (.own 36 6 (List.map recV r0)) [] := by
  unfold i_SetOf at h
  refine runsR [.tmp 6] Try.func33 rfl rfl rfl rfl ?_
  rw [Try.ntmps33]
  refine tri_seq ?_
  refine tri_region ?_
  refine s_mv (.inr rfl) (v := .nils) rfl rfl rfl rfl ?_
  refine rt_nil ?_
  refine tri_seq ?_
  refine tri_region ?_
  refine s_buildSlice (rows' := List.map recV ([] : List Rec)) rfl rfl rfl sl27 zc36 rfl rfl rfl rfl rfl rfl rfl rfl rfl ?_
  refine s_mv (.inr rfl) (by conv => lhs; whnf) rfl rfl rfl ?_
  refine rt_nil ?_
  refine tri_seq ?_
  refine tri_seq ?_
  refine tri_region ?_
  refine s_mv (.inl rfl) (by conv => lhs; whnf) rfl rfl rfl ?_
  refine s_lenL rfl sl27 rfl rfl rfl rfl ?_
  refine s_mv (.inl rfl) (v := .sc (.int .i64 0)) rfl rfl rfl rfl ?_
  refine rt_nil ?_
  refine tri_block ?_
  refine tri_lstM 0 rfl (fun hl0 => ?_)
  refine tri_loop (ι := { p : (List Rec) × (List Rec) × Nat // p0.drop p.2.2 = p.1 ∧ i_SetOf_l0 p1 p2 p.1 p.2.1 p.2.2 = some r0 }) (fun p => inv_i_SetOf_0 p0 p1 p2 p.1.2.1 p.1.2.2) (fun p => p.1.1.length) ⟨(p0, ([] : List Rec), 0), rfl, h⟩ ?_ ?_
  · skip
    refine entX [((2007, 0), ⟨36, 6, List.map recV ([] : List Rec), false, true⟩, some (10, 0))] [] ⟨⟨rfl, _, rfl, rfl, rfl, rfl, id, rowsCv_eq rfl (allFree_map recV_free), rowsZ_map recV_len⟩, trivial⟩ trivial rfl rfl ?_
    exact ⟨(.free rfl), (.free rfl), (.ref rfl), (.free rfl), (.free rfl), (.free rfl), trivial⟩
  · rintro ⟨⟨lrs0, v0_0, v0_1⟩, hd0, h⟩
    replace hd0 : p0.drop v0_1 = lrs0 := hd0
    replace h : i_SetOf_l0 p1 p2 lrs0 v0_0 v0_1 = some r0 := h
    show Tri _ _ _ (inv_i_SetOf_0 p0 p1 p2 v0_0 v0_1)
    refine tri_seq ?_
    refine tri_region ?_
    refine s_of (st_lss rfl rfl rfl) rfl rfl rfl rfl ?_
    refine rt_nil ?_
    refine tri_seq ?_
    refine tri_cond rfl (fun c1 => ?_) (fun c1 => ?_)
    · refine drop_elim hd0 c1 fun e0 rs0 he hx0 hn0 => ?_
      subst he
      rw [i_SetOf_l0] at h
      refine tri_skip ?_
      refine tri_seq ?_
      refine tri_block ?_
      refine tri_seq ?_
      refine tri_region ?_
      refine s_indexF (i := v0_1) rfl rfl rfl sl27 (get_ltM hx0) rfl rfl rfl ?_
      refine s_loadFR rfl rfl (rowG hx0) ty36 rfl rfl rfl ?_
      refine s_alloc rfl rfl rfl zc36 rfl rfl rfl rfl rfl ?_
      refine s_storeB rfl rfl rfl ty36 rfl rfl rfl rfl rfl ?_
      refine rt_nil ?_
      refine tri_cutI (ι := { p : Bool // i_SetOf_j1 v0_0 v0_1 e0 (i_SetOf_l0 p1 p2 rs0) p = some r0 }) (fun p => inv_i_SetOf_1 p0 p1 p2 v0_0 v0_1 e0 p.1) ?_ ?_
      · skip
        refine tri_region ?_
        refine s_fieldAddr rfl rfl fd36_0 rfl rfl rfl rfl ?_
        refine s_load rfl rfl rfl rfl ty9 rfl (.inr rfl) (by conv => lhs; whnf) rfl rfl rfl ?_
        refine s_mv (.inl rfl) (by conv => lhs; whnf) rfl rfl rfl ?_
        refine s_of (st_eqS rfl rfl rfl) rfl rfl rfl rfl ?_
        refine s_mv (.inl rfl) (by conv => lhs; whnf) rfl rfl rfl ?_
        refine s_split (t := 21) rfl (fun b2 => ?_) (fun b2 => ?_)
        · replace h := cond_t h b2
          refine s_fieldAddr rfl rfl fd36_1 rfl rfl rfl rfl ?_
          refine s_load rfl rfl rfl rfl ty3 rfl (.inr rfl) (by conv => lhs; whnf) rfl rfl rfl ?_
          refine s_mv (.inl rfl) (by conv => lhs; whnf) rfl rfl rfl ?_
          refine s_of (st_eqI rfl rfl rfl) rfl rfl rfl rfl ?_
          refine s_pickT rfl rfl (by conv => lhs; whnf) rfl rfl rfl ?_
          refine rt_nil ?_
          refine Exists.intro ⟨decide (e0.ty = p2), h⟩ ?_
          refine entX [((2007, 0), ⟨36, 6, List.map recV v0_0, false, true⟩, some (2007, 0)), ((9, 0), ⟨36, 6, [[.sc (.string e0.name), .sc (.int .i64 e0.ty), .sc (.int .i64 e0.ttl), .sc (.int .i64 e0.n), .sc (.string e0.host), .sc (.string e0.text)]], false, true⟩, some (9, 0))] [] ⟨⟨rfl, _, rfl, rfl, rfl, rfl, id, rowsCv_eq rfl (allFree_map recV_free), rowsZ_map recV_len⟩, ⟨rfl, _, rfl, rfl, rfl, rfl, id, rowsCv_one (.cons (.free rfl) (.cons (.free rfl) (.cons (.free rfl) (.cons (.free rfl) (.cons (.free rfl) (.cons (.free rfl) .nil)))))), rowsZ_one rfl⟩, trivial⟩ trivial rfl rfl ?_
          exact ⟨(.free rfl), (.free rfl), (.ref rfl), (.ptr rfl), (.free rfl), (.free rfl), (.free rfl), (.free rfl), trivial⟩
        · replace h := cond_f h b2
          refine s_skip rfl rfl rfl ?_
          refine s_skip rfl rfl rfl ?_
          refine s_skip rfl rfl rfl ?_
          refine s_skip rfl rfl rfl ?_
          refine s_pickF rfl rfl (v := .sc (.bool false)) rfl rfl rfl rfl ?_
          refine rt_nil ?_
          refine Exists.intro ⟨false, h⟩ ?_
          refine entX [((2007, 0), ⟨36, 6, List.map recV v0_0, false, true⟩, some (2007, 0)), ((9, 0), ⟨36, 6, [[.sc (.string e0.name), .sc (.int .i64 e0.ty), .sc (.int .i64 e0.ttl), .sc (.int .i64 e0.n), .sc (.string e0.host), .sc (.string e0.text)]], false, true⟩, some (9, 0))] [] ⟨⟨rfl, _, rfl, rfl, rfl, rfl, id, rowsCv_eq rfl (allFree_map recV_free), rowsZ_map recV_len⟩, ⟨rfl, _, rfl, rfl, rfl, rfl, id, rowsCv_one (.cons (.free rfl) (.cons (.free rfl) (.cons (.free rfl) (.cons (.free rfl) (.cons (.free rfl) (.cons (.free rfl) .nil)))))), rowsZ_one rfl⟩, trivial⟩ trivial rfl rfl ?_
          exact ⟨(.free rfl), (.free rfl), (.ref rfl), (.ptr rfl), (.free rfl), (.free rfl), (.free rfl), (.free rfl), trivial⟩
      · rintro ⟨j1_0, h⟩
        replace h : i_SetOf_j1 v0_0 v0_1 e0 (i_SetOf_l0 p1 p2 rs0) j1_0 = some r0 := h
        unfold i_SetOf_j1 at h
        show Tri _ _ _ (inv_i_SetOf_1 p0 p1 p2 v0_0 v0_1 e0 j1_0)
        refine tri_cond rfl (fun c2 => ?_) (fun c2 => ?_)
        · replace h := cond_t h c2
          refine tri_region ?_
          refine s_mv (.inl rfl) (by conv => lhs; whnf) rfl rfl rfl ?_
          refine s_loadR rfl rfl rfl rfl ty36 rfl rfl rfl ?_
          refine s_buildSlice (rows' := List.map recV [e0]) rfl rfl rfl sl27 zc36 rfl rfl rfl rfl rfl rfl rfl rfl rfl ?_
          refine grd_elim h fun g3 h => ?_
          refine s_appL rfl rfl rfl sl27 zc36 rfl rfl rfl rfl rfl rfl (src_refL rfl rfl) g3 rfl rfl ?_
          refine s_mv (.inr rfl) (by conv => lhs; whnf) rfl rfl rfl ?_
          refine rt_nil ?_
          refine tri_region ?_
          refine s_inc (a := v0_1) (b := 1) rfl rfl rfl rfl (by have := get_lt hx0; have := hl0; omega) rfl rfl rfl ?_
          refine s_mv (.inl rfl) (by conv => lhs; whnf) rfl rfl rfl ?_
          refine rt_nil ?_
          refine Exists.intro ⟨(rs0, v0_0 ++ [e0], (v0_1 + 1)), hn0, h⟩ (And.intro (Nat.lt_succ_self _) ?_)
          refine entX [((2007, 0), ⟨36, 6, List.map recV (v0_0 ++ [e0]), false, true⟩, some (30, 0))] [] ⟨⟨rfl, _, rfl, rfl, rfl, rfl, id, rowsCv_eq rfl (allFree_map recV_free), rowsZ_map recV_len⟩, trivial⟩ trivial rfl rfl ?_
          exact ⟨(.free rfl), (.free rfl), (.ref rfl), (.free rfl), (.free rfl), (.free rfl), trivial⟩
        · replace h := cond_f h c2
          refine tri_skip ?_
          refine tri_region ?_
          refine s_inc (a := v0_1) (b := 1) rfl rfl rfl rfl (by have := get_lt hx0; have := hl0; omega) rfl rfl rfl ?_
          refine s_mv (.inl rfl) (by conv => lhs; whnf) rfl rfl rfl ?_
          refine rt_nil ?_
          refine Exists.intro ⟨(rs0, v0_0, (v0_1 + 1)), hn0, h⟩ (And.intro (Nat.lt_succ_self _) ?_)
          refine entX [((2007, 0), ⟨36, 6, List.map recV v0_0, false, true⟩, some (2007, 0))] [] ⟨⟨rfl, _, rfl, rfl, rfl, rfl, id, rowsCv_eq rfl (allFree_map recV_free), rowsZ_map recV_len⟩, trivial⟩ trivial rfl rfl ?_
          exact ⟨(.free rfl), (.free rfl), (.ref rfl), (.free rfl), (.free rfl), (.free rfl), trivial⟩
    · have he := drop_f hd0 c1; subst he
      rw [i_SetOf_l0] at h
      refine tri_exit ?_
      refine tri_seq ?_
      refine tri_region ?_
      refine s_mv (.inl rfl) (by conv => lhs; whnf) rfl rfl rfl ?_
      refine s_mv (.inr rfl) (by conv => lhs; whnf) rfl rfl rfl ?_
      refine rt_nil ?_
      refine tri_ret ?_
      have e0 := (some1 h); subst e0
      exact endY (v' := .ref (2000, 0) 0 v0_0.length) [((2000, 0), ⟨36, 6, List.map recV v0_0, false, true⟩, some (2007, 0))] [] (rvC (resTmp rfl) rvN) ⟨⟨rfl, _, rfl, rfl, rfl, rfl, id, rowsCv_eq rfl (allFree_map recV_free), rowsZ_map recV_len⟩, trivial⟩ trivial rfl rfl (by kernel_rfl) (by simp only [V.mat, V.mat1, V.mat0, matL, matT, List.length_map]) (.ref rfl)

/- impl.LeastTtl -/
def inv_i_LeastTtl_0 (p0 : List Rec) (v0_0 : Int) (v0_1 : Nat) : St := mkT 25 [(3, .sc (.int .i64 v0_0)), (13, .lst 6 (List.map recV p0)), (14, .sc (.int .i64 (p0.length : Int))), (15, .sc (.int .i64 (v0_1 : Int)))] []
set_option maxRecDepth 4000 in
set_option maxHeartbeats 800000 in
theorem wi_LeastTtl (p0 : List Rec) (r0 : Int) (h : i_LeastTtl p0 = some r0) : Runs Try.prog 20 [.lst 6 (List.map recV p0)] [] (.sc (.int .i64 r0)) [] := by
  unfold i_LeastTtl at h
  refine runsR [.tmp 2] Try.func20 rfl rfl rfl rfl ?_
  rw [Try.ntmps20]
  refine tri_seq ?_
  refine tri_region ?_
  refine s_mv (.inr rfl) (v := .sc (.int .i64 0)) rfl rfl rfl rfl ?_
  refine rt_nil ?_
  refine tri_seq ?_
  refine tri_seq ?_
  refine tri_region ?_
  refine s_mv (.inl rfl) (by conv => lhs; whnf) rfl rfl rfl ?_
  refine s_lenL rfl sl27 rfl rfl rfl rfl ?_
  refine s_of (st_eqI rfl rfl rfl) rfl rfl rfl rfl ?_
  refine rt_nil ?_
  refine tri_cond rfl (fun c1 => ?_) (fun c1 => ?_)
  · replace h := cond_t h c1
    refine tri_seq ?_
    refine tri_region ?_
    refine s_mv (.inr rfl) (v := .sc (.int .i64 0)) rfl rfl rfl rfl ?_
    refine rt_nil ?_
    refine tri_ret ?_
    have e0 := (some1 h); subst e0
    exact endY [] [] (rvC (resTmp rfl) rvN) trivial trivial rfl rfl rfl rfl (.free rfl)
  · replace h := cond_f h c1
    refine tri_skip ?_
    refine tri_seq ?_
    refine tri_region ?_
    refine s_mv (.inl rfl) (by conv => lhs; whnf) rfl rfl rfl ?_
    refine bnd1_elim h fun x2 q3 h => ?_
    have q3a := (idx_some q3).1; have q3b := (idx_some q3).2
    refine s_indexFZ rfl rfl rfl sl27 q3a (get_ltM q3b) rfl rfl rfl ?_
    refine s_fieldAddrF rfl rfl fd36_2 rfl rfl rfl rfl ?_
    refine s_loadF rfl rfl (rowG q3b) ty3 rfl (.inr rfl) (by conv => lhs; whnf) rfl rfl rfl ?_
    refine s_mv (.inr rfl) (by conv => lhs; whnf) rfl rfl rfl ?_
    refine rt_nil ?_
    refine tri_seq ?_
    refine tri_seq ?_
    refine tri_region ?_
    refine s_mv (.inl rfl) (by conv => lhs; whnf) rfl rfl rfl ?_
    refine s_lenL rfl sl27 rfl rfl rfl rfl ?_
    refine s_mv (.inl rfl) (v := .sc (.int .i64 0)) rfl rfl rfl rfl ?_
    refine rt_nil ?_
    refine tri_block ?_
    refine tri_lstM 0 rfl (fun hl0 => ?_)
    refine tri_loop (ι := { p : (List Rec) × Int × Nat // p0.drop p.2.2 = p.1 ∧ i_LeastTtl_l0 p.1 p.2.1 p.2.2 = some r0 }) (fun p => inv_i_LeastTtl_0 p0 p.1.2.1 p.1.2.2) (fun p => p.1.1.length) ⟨(p0, x2.ttl, 0), rfl, h⟩ ?_ ?_
    · skip
      refine entX [] [] trivial trivial rfl rfl ?_
      exact ⟨(.free rfl), (.free rfl), (.free rfl), (.free rfl), trivial⟩
    · rintro ⟨⟨lrs0, v0_0, v0_1⟩, hd0, h⟩
      replace hd0 : p0.drop v0_1 = lrs0 := hd0
      replace h : i_LeastTtl_l0 lrs0 v0_0 v0_1 = some r0 := h
      show Tri _ _ _ (inv_i_LeastTtl_0 p0 v0_0 v0_1)
      refine tri_seq ?_
      refine tri_region ?_
      refine s_of (st_lss rfl rfl rfl) rfl rfl rfl rfl ?_
      refine rt_nil ?_
      refine tri_seq ?_
      refine tri_cond rfl (fun c4 => ?_) (fun c4 => ?_)
      · refine drop_elim hd0 c4 fun e0 rs0 he hx0 hn0 => ?_
        subst he
        rw [i_LeastTtl_l0] at h
        refine tri_skip ?_
        refine tri_seq ?_
        refine tri_block ?_
        refine tri_seq ?_
        refine tri_region ?_
        refine s_indexF (i := v0_1) rfl rfl rfl sl27 (get_ltM hx0) rfl rfl rfl ?_
        refine s_loadFR rfl rfl (rowG hx0) ty36 rfl rfl rfl ?_
        refine s_alloc rfl rfl rfl zc36 rfl rfl rfl rfl rfl ?_
        refine s_storeB rfl rfl rfl ty36 rfl rfl rfl rfl rfl ?_
        refine rt_nil ?_
        refine tri_region ?_
        refine s_mv (.inl rfl) (by conv => lhs; whnf) rfl rfl rfl ?_
        refine s_fieldAddr rfl rfl fd36_2 rfl rfl rfl rfl ?_
        refine s_load rfl rfl rfl rfl ty3 rfl (.inr rfl) (by conv => lhs; whnf) rfl rfl rfl ?_
        refine s_of (st_minI rfl rfl rfl) rfl rfl rfl rfl ?_
        refine s_mv (.inr rfl) (by conv => lhs; whnf) rfl rfl rfl ?_
        refine rt_nil ?_
        refine tri_region ?_
        refine s_inc (a := v0_1) (b := 1) rfl rfl rfl rfl (by have := get_lt hx0; have := hl0; omega) rfl rfl rfl ?_
        refine s_mv (.inl rfl) (by conv => lhs; whnf) rfl rfl rfl ?_
        refine rt_nil ?_
        refine Exists.intro ⟨(rs0, (if e0.ttl < v0_0 then e0.ttl else v0_0), (v0_1 + 1)), hn0, h⟩ (And.intro (Nat.lt_succ_self _) ?_)
        refine entX [] [] trivial trivial rfl rfl ?_
        exact ⟨(.free rfl), (.free rfl), (.free rfl), (.free rfl), trivial⟩
      · have he := drop_f hd0 c4; subst he
        rw [i_LeastTtl_l0] at h
        refine tri_exit ?_
        refine tri_seq ?_
        refine tri_region ?_
        refine s_mv (.inl rfl) (by conv => lhs; whnf) rfl rfl rfl ?_
        refine s_mv (.inr rfl) (by conv => lhs; whnf) rfl rfl rfl ?_
        refine rt_nil ?_
        refine tri_ret ?_
        have e0 := (some1 h); subst e0
        exact endY [] [] (rvC (resTmp rfl) rvN) trivial trivial rfl rfl rfl rfl (.free rfl)

/- spec.KeysOf -/
def inv_s_KeysOf_2 (p0 : List Rec) (v0_0 : List Quest) (v0_1 : Nat) (e0 : Rec) (v2_0 : Bool) (v2_1 : Nat) : St := mkT 48 [(0, .lst 6 (List.map recV p0)), (3, .ref (2003, 0) 0 v0_0.length), (4, .sc (.int .i64 (v0_1 : Int))), (5, .ptr (5, 0) 0 0), (6, .sc (.bool v2_0)), (7, .sc (.int .i64 (v2_1 : Int)))] [((2003, 0), some ⟨70, 2, List.map questV v0_0, false, true⟩), ((5, 0), some ⟨70, 2, [[.sc (.string e0.name), .sc (.int .i64 e0.ty)]], false, true⟩)]
def inv_s_KeysOf_1 (p0 : List Rec) (v0_0 : List Quest) (v0_1 : Nat) (e0 : Rec) (j1_0 : Bool) : St := mkT 48 [(0, .lst 6 (List.map recV p0)), (3, .ref (2003, 0) 0 v0_0.length), (4, .sc (.int .i64 (v0_1 : Int))), (5, .ptr (5, 0) 0 0), (6, .sc (.bool j1_0))] [((2003, 0), some ⟨70, 2, List.map questV v0_0, false, true⟩), ((5, 0), some ⟨70, 2, [[.sc (.string e0.name), .sc (.int .i64 e0.ty)]], false, true⟩)]
def inv_s_KeysOf_0 (p0 : List Rec) (v0_0 : List Quest) (v0_1 : Nat) : St := mkT 48 [(0, .lst 6 (List.map recV p0)), (3, .ref (2003, 0) 0 v0_0.length), (4, .sc (.int .i64 (v0_1 : Int)))] [((2003, 0), some ⟨70, 2, List.map questV v0_0, false, true⟩)]
set_option maxRecDepth 4000 in
set_option maxHeartbeats 800000 in
theorem ws_KeysOf (p0 : List Rec) (r0 : List Quest) (h : s_KeysOf p0 = some r0) : Runs Try.prog 48 [.lst 6 (List.map recV p0)] [] (.own 70 2 (List.map questV r0)) [] := by
  unfold s_KeysOf at h
  refine runsR [.tmp 2] Try.func48 rfl rfl rfl rfl ?_
  rw [Try.ntmps48]
  refine tri_seq ?_
  refine tri_region ?_
  refine s_mv (.inr rfl) (v := .nils) rfl rfl rfl rfl ?_
  refine rt_nil ?_
  refine tri_seq ?_
  refine tri_region ?_
  refine s_buildSlice (rows' := List.map questV ([] : List Quest)) rfl rfl rfl sl58 zc70 rfl rfl rfl rfl rfl rfl rfl rfl rfl ?_
  refine s_mv (.inr rfl) (by conv => lhs; whnf) rfl rfl rfl ?_
  refine rt_nil ?_
  refine tri_seq ?_
  refine tri_seq ?_
  refine tri_region ?_
  refine s_mv (.inr rfl) (v := .sc (.int .i64 0)) rfl rfl rfl rfl ?_
  refine rt_nil ?_
  refine tri_block ?_
  refine tri_lstM 0 rfl (fun hl0 => ?_)
  refine tri_loop (ι := { p : (List Rec) × (List Quest) × Nat // p0.drop p.2.2 = p.1 ∧ s_KeysOf_l0 p.1 p.2.1 p.2.2 = some r0 }) (fun p => inv_s_KeysOf_0 p0 p.1.2.1 p.1.2.2) (fun p => p.1.1.length) ⟨(p0, ([] : List Quest), 0), rfl, h⟩ ?_ ?_
  · skip
    refine entX [((2003, 0), ⟨70, 2, List.map questV ([] : List Quest), false, true⟩, some (8, 0))] [] ⟨⟨rfl, _, rfl, rfl, rfl, rfl, id, rowsCv_eq rfl (allFree_map questV_free), rowsZ_map questV_len⟩, trivial⟩ trivial rfl rfl ?_
    exact ⟨(.free rfl), (.ref rfl), (.free rfl), trivial⟩
  · rintro ⟨⟨lrs0, v0_0, v0_1⟩, hd0, h⟩
    replace hd0 : p0.drop v0_1 = lrs0 := hd0
    replace h : s_KeysOf_l0 lrs0 v0_0 v0_1 = some r0 := h
    show Tri _ _ _ (inv_s_KeysOf_0 p0 v0_0 v0_1)
    refine tri_seq ?_
    refine tri_seq ?_
    refine tri_region ?_
    refine s_mv (.inl rfl) (by conv => lhs; whnf) rfl rfl rfl ?_
    refine s_mv (.inl rfl) (by conv => lhs; whnf) rfl rfl rfl ?_
    refine s_lenL rfl sl27 rfl rfl rfl rfl ?_
    refine s_of (st_lss rfl rfl rfl) rfl rfl rfl rfl ?_
    refine rt_nil ?_
    refine tri_cond rfl (fun c1 => ?_) (fun c1 => ?_)
    · refine drop_elim hd0 c1 fun e0 rs0 he hx0 hn0 => ?_
      subst he
      rw [s_KeysOf_l0] at h
      refine tri_skip ?_
      refine tri_seq ?_
      refine tri_block ?_
      refine tri_seq ?_
      refine tri_draw mixed ?_
      refine s_mv (.inl rfl) (by conv => lhs; whnf) rfl rfl rfl ?_
      refine s_mv (.inl rfl) (by conv => lhs; whnf) rfl rfl rfl ?_
      refine s_indexF (i := v0_1) rfl rfl rfl sl27 (get_ltM hx0) rfl rfl rfl ?_
      refine s_fieldAddrF rfl rfl fd36_0 rfl rfl rfl rfl ?_
      refine s_loadF rfl rfl (rowG hx0) ty9 rfl (.inr rfl) (by conv => lhs; whnf) rfl rfl rfl ?_
      refine s_mv (.inl rfl) (by conv => lhs; whnf) rfl rfl rfl ?_
      refine s_mv (.inl rfl) (by conv => lhs; whnf) rfl rfl rfl ?_
      refine s_indexF (i := v0_1) rfl rfl rfl sl27 (get_ltM hx0) rfl rfl rfl ?_
      refine s_fieldAddrF rfl rfl fd36_1 rfl rfl rfl rfl ?_
      refine s_loadF rfl rfl (rowG hx0) ty3 rfl (.inr rfl) (by conv => lhs; whnf) rfl rfl rfl ?_
      refine s_build (cells' := [.sc (.string e0.name), .sc (.int .i64 e0.ty)]) rfl stc70 rfl rfl rfl rfl rfl rfl rfl ?_
      refine s_alloc rfl rfl rfl zc70 rfl rfl rfl rfl rfl ?_
      refine s_storeB rfl rfl rfl ty70 rfl rfl rfl rfl rfl ?_
      refine rt_nil ⟨by kernel_rfl, ?_⟩
      refine tri_seq ?_
      refine tri_region ?_
      refine s_mv (.inr rfl) (v := .sc (.bool false)) rfl rfl rfl rfl ?_
      refine rt_nil ?_
      refine tri_cutI (ι := { p : Bool // s_KeysOf_j1 v0_0 v0_1 e0 (s_KeysOf_l0 rs0) p = some r0 }) (fun p => inv_s_KeysOf_1 p0 v0_0 v0_1 e0 p.1) ?_ ?_
      · skip
        refine tri_seq ?_
        refine tri_region ?_
        refine s_mv (.inr rfl) (v := .sc (.int .i64 0)) rfl rfl rfl rfl ?_
        refine rt_nil ?_
        refine tri_block ?_
        refine tri_ownM (2003, 0) rfl (fun hl2 => ?_)
        refine tri_loop (ι := { p : (List Quest) × Bool × Nat // v0_0.drop p.2.2 = p.1 ∧ s_KeysOf_l2 v0_0 v0_1 e0 (s_KeysOf_l0 rs0) p.1 p.2.1 p.2.2 = some r0 }) (fun p => inv_s_KeysOf_2 p0 v0_0 v0_1 e0 p.1.2.1 p.1.2.2) (fun p => p.1.1.length) ⟨(v0_0, false, 0), rfl, h⟩ ?_ ?_
        · skip
          refine entX [((2003, 0), ⟨70, 2, List.map questV v0_0, false, true⟩, some (2003, 0)), ((5, 0), ⟨70, 2, [[.sc (.string e0.name), .sc (.int .i64 e0.ty)]], false, true⟩, some (5, 0))] [] ⟨⟨rfl, _, rfl, rfl, rfl, rfl, id, rowsCv_eq rfl (allFree_map questV_free), rowsZ_map questV_len⟩, ⟨rfl, _, rfl, rfl, rfl, rfl, id, rowsCv_one (.cons (.free rfl) (.cons (.free rfl) .nil)), rowsZ_one rfl⟩, trivial⟩ trivial rfl rfl ?_
          exact ⟨(.free rfl), (.ref rfl), (.free rfl), (.ptr rfl), (.free rfl), (.free rfl), trivial⟩
        · rintro ⟨⟨lrs2, v2_0, v2_1⟩, hd2, h⟩
          replace hd2 : v0_0.drop v2_1 = lrs2 := hd2
          replace h : s_KeysOf_l2 v0_0 v0_1 e0 (s_KeysOf_l0 rs0) lrs2 v2_0 v2_1 = some r0 := h
          show Tri _ _ _ (inv_s_KeysOf_2 p0 v0_0 v0_1 e0 v2_0 v2_1)
          refine tri_seq ?_
          refine tri_seq ?_
          refine tri_region ?_
          refine s_mv (.inl rfl) (by conv => lhs; whnf) rfl rfl rfl ?_
          refine s_mv (.inl rfl) (by conv => lhs; whnf) rfl rfl rfl ?_
          refine s_len (m := v0_0.length) rfl sl58 rfl rfl rfl rfl ?_
          refine s_of (st_lss rfl rfl rfl) rfl rfl rfl rfl ?_
          refine rt_nil ?_
          refine tri_cond rfl (fun c2 => ?_) (fun c2 => ?_)
          · refine drop_elim hd2 c2 fun e2 rs2 he hx2 hn2 => ?_
            subst he
            rw [s_KeysOf_l2] at h
            refine tri_skip ?_
            refine tri_seq ?_
            refine tri_block ?_
            refine tri_draw mixed ?_
            refine s_mv (.inl rfl) (by conv => lhs; whnf) rfl rfl rfl ?_
            refine s_mv (.inl rfl) (by conv => lhs; whnf) rfl rfl rfl ?_
            refine s_split (t := 33) rfl (fun b3 => ?_) (fun b3 => ?_)
            · replace h := cond_t h b3
              refine s_skip rfl rfl rfl ?_
              refine s_skip rfl rfl rfl ?_
              refine s_skip rfl rfl rfl ?_
              refine s_skip rfl rfl rfl ?_
              refine s_skip rfl rfl rfl ?_
              refine s_skip rfl rfl rfl ?_
              refine s_pickT rfl rfl (v := .sc (.bool true)) rfl rfl rfl rfl ?_
              refine s_mv (.inr rfl) (by conv => lhs; whnf) rfl rfl rfl ?_
              refine rt_nil ⟨by kernel_rfl, ?_⟩
              refine tri_region ?_
              refine s_mv (.inl rfl) (by conv => lhs; whnf) rfl rfl rfl ?_
              refine s_inc (a := v2_1) (b := 1) rfl rfl rfl rfl (by have := get_lt hx2; have := hl2; omega) rfl rfl rfl ?_
              refine s_mv (.inr rfl) (by conv => lhs; whnf) rfl rfl rfl ?_
              refine rt_nil ?_
              refine Exists.intro ⟨(rs2, true, (v2_1 + 1)), hn2, h⟩ (And.intro (Nat.lt_succ_self _) ?_)
              refine entX [((2003, 0), ⟨70, 2, List.map questV v0_0, false, true⟩, some (2003, 0)), ((5, 0), ⟨70, 2, [[.sc (.string e0.name), .sc (.int .i64 e0.ty)]], false, true⟩, some (5, 0))] [] ⟨⟨rfl, _, rfl, rfl, rfl, rfl, id, rowsCv_eq rfl (allFree_map questV_free), rowsZ_map questV_len⟩, ⟨rfl, _, rfl, rfl, rfl, rfl, id, rowsCv_one (.cons (.free rfl) (.cons (.free rfl) .nil)), rowsZ_one rfl⟩, trivial⟩ trivial rfl rfl ?_
              exact ⟨(.free rfl), (.ref rfl), (.free rfl), (.ptr rfl), (.free rfl), (.free rfl), trivial⟩
            · replace h := cond_f h b3
              refine s_mv (.inl rfl) (by conv => lhs; whnf) rfl rfl rfl ?_
              refine s_mv (.inl rfl) (by conv => lhs; whnf) rfl rfl rfl ?_
              refine s_index0 (i := v2_1) rfl rfl rfl rfl sl58 rfl (get_lt hx2) rfl rfl rfl ?_
              refine s_loadR rfl rfl rfl (rowG hx2) ty70 rfl rfl rfl ?_
              refine s_loadR rfl rfl rfl rfl ty70 rfl rfl rfl ?_
              refine s_eqStruct (r' := (decide (e2.name = e0.name) && (decide (e2.ty = e0.ty) && true))) rfl rfl rfl fk70 rfl rfl rfl rfl rfl ?_
              refine s_pickF rfl rfl (by conv => lhs; whnf) rfl rfl rfl ?_
              refine s_mv (.inr rfl) (by conv => lhs; whnf) rfl rfl rfl ?_
              refine rt_nil ⟨by kernel_rfl, ?_⟩
              refine tri_region ?_
              refine s_mv (.inl rfl) (by conv => lhs; whnf) rfl rfl rfl ?_
              refine s_inc (a := v2_1) (b := 1) rfl rfl rfl rfl (by have := get_lt hx2; have := hl2; omega) rfl rfl rfl ?_
              refine s_mv (.inr rfl) (by conv => lhs; whnf) rfl rfl rfl ?_
              refine rt_nil ?_
              refine Exists.intro ⟨(rs2, (decide (e2.name = e0.name) && (decide (e2.ty = e0.ty) && true)), (v2_1 + 1)), hn2, h⟩ (And.intro (Nat.lt_succ_self _) ?_)
              refine entX [((2003, 0), ⟨70, 2, List.map questV v0_0, false, true⟩, some (2003, 0)), ((5, 0), ⟨70, 2, [[.sc (.string e0.name), .sc (.int .i64 e0.ty)]], false, true⟩, some (5, 0))] [] ⟨⟨rfl, _, rfl, rfl, rfl, rfl, id, rowsCv_eq rfl (allFree_map questV_free), rowsZ_map questV_len⟩, ⟨rfl, _, rfl, rfl, rfl, rfl, id, rowsCv_one (.cons (.free rfl) (.cons (.free rfl) .nil)), rowsZ_one rfl⟩, trivial⟩ trivial rfl rfl ?_
              exact ⟨(.free rfl), (.ref rfl), (.free rfl), (.ptr rfl), (.free rfl), (.free rfl), trivial⟩
          · have he := drop_f hd2 c2; subst he
            rw [s_KeysOf_l2] at h
            refine tri_exit ?_
            refine Exists.intro ⟨v2_0, h⟩ ?_
            refine entX [((2003, 0), ⟨70, 2, List.map questV v0_0, false, true⟩, some (2003, 0)), ((5, 0), ⟨70, 2, [[.sc (.string e0.name), .sc (.int .i64 e0.ty)]], false, true⟩, some (5, 0))] [] ⟨⟨rfl, _, rfl, rfl, rfl, rfl, id, rowsCv_eq rfl (allFree_map questV_free), rowsZ_map questV_len⟩, ⟨rfl, _, rfl, rfl, rfl, rfl, id, rowsCv_one (.cons (.free rfl) (.cons (.free rfl) .nil)), rowsZ_one rfl⟩, trivial⟩ trivial rfl rfl ?_
            exact ⟨(.free rfl), (.ref rfl), (.free rfl), (.ptr rfl), (.free rfl), trivial⟩
      · rintro ⟨j1_0, h⟩
        replace h : s_KeysOf_j1 v0_0 v0_1 e0 (s_KeysOf_l0 rs0) j1_0 = some r0 := h
        unfold s_KeysOf_j1 at h
        show Tri _ _ _ (inv_s_KeysOf_1 p0 v0_0 v0_1 e0 j1_0)
        refine tri_seq ?_
        refine tri_region ?_
        refine s_mv (.inl rfl) (by conv => lhs; whnf) rfl rfl rfl ?_
        refine s_of (st_not rfl rfl) rfl rfl rfl rfl ?_
        refine rt_nil ?_
        refine tri_cond rfl (fun c2 => ?_) (fun c2 => ?_)
        · replace h := cond_t h c2
          refine tri_region ?_
          refine s_mv (.inl rfl) (by conv => lhs; whnf) rfl rfl rfl ?_
          refine s_loadR rfl rfl rfl rfl ty70 rfl rfl rfl ?_
          refine s_buildSlice (rows' := List.map questV [Quest.mk e0.name e0.ty]) rfl rfl rfl sl58 zc70 rfl rfl rfl rfl rfl rfl rfl rfl rfl ?_
          refine grd_elim h fun g3 h => ?_
          refine s_appL rfl rfl rfl sl58 zc70 rfl rfl rfl rfl rfl rfl (src_refL rfl rfl) g3 rfl rfl ?_
          refine s_mv (.inr rfl) (by conv => lhs; whnf) rfl rfl rfl ?_
          refine rt_nil ?_
          refine tri_region ?_
          refine s_mv (.inl rfl) (by conv => lhs; whnf) rfl rfl rfl ?_
          refine s_inc (a := v0_1) (b := 1) rfl rfl rfl rfl (by have := get_lt hx0; have := hl0; omega) rfl rfl rfl ?_
          refine s_mv (.inr rfl) (by conv => lhs; whnf) rfl rfl rfl ?_
          refine rt_nil ?_
          refine Exists.intro ⟨(rs0, v0_0 ++ [Quest.mk e0.name e0.ty], (v0_1 + 1)), hn0, h⟩ (And.intro (Nat.lt_succ_self _) ?_)
          refine entX [((2003, 0), ⟨70, 2, List.map questV (v0_0 ++ [Quest.mk e0.name e0.ty]), false, true⟩, some (46, 0))] [] ⟨⟨rfl, _, rfl, rfl, rfl, rfl, id, rowsCv_eq rfl (allFree_map questV_free), rowsZ_map questV_len⟩, trivial⟩ trivial rfl rfl ?_
          exact ⟨(.free rfl), (.ref rfl), (.free rfl), trivial⟩
        · replace h := cond_f h c2
          refine tri_skip ?_
          refine tri_region ?_
          refine s_mv (.inl rfl) (by conv => lhs; whnf) rfl rfl rfl ?_
          refine s_inc (a := v0_1) (b := 1) rfl rfl rfl rfl (by have := get_lt hx0; have := hl0; omega) rfl rfl rfl ?_
          refine s_mv (.inr rfl) (by conv => lhs; whnf) rfl rfl rfl ?_
          refine rt_nil ?_
          refine Exists.intro ⟨(rs0, v0_0, (v0_1 + 1)), hn0, h⟩ (And.intro (Nat.lt_succ_self _) ?_)
          refine entX [((2003, 0), ⟨70, 2, List.map questV v0_0, false, true⟩, some (2003, 0))] [] ⟨⟨rfl, _, rfl, rfl, rfl, rfl, id, rowsCv_eq rfl (allFree_map questV_free), rowsZ_map questV_len⟩, trivial⟩ trivial rfl rfl ?_
          exact ⟨(.free rfl), (.ref rfl), (.free rfl), trivial⟩
    · have he := drop_f hd0 c1; subst he
      rw [s_KeysOf_l0] at h
      refine tri_exit ?_
      refine tri_seq ?_
      refine tri_region ?_
      refine s_mv (.inl rfl) (by conv => lhs; whnf) rfl rfl rfl ?_
      refine s_mv (.inr rfl) (by conv => lhs; whnf) rfl rfl rfl ?_
      refine rt_nil ?_
      refine tri_ret ?_
      have e0 := (some1 h); subst e0
      exact endY (v' := .ref (2000, 0) 0 v0_0.length) [((2000, 0), ⟨70, 2, List.map questV v0_0, false, true⟩, some (2003, 0))] [] (rvC (resTmp rfl) rvN) ⟨⟨rfl, _, rfl, rfl, rfl, rfl, id, rowsCv_eq rfl (allFree_map questV_free), rowsZ_map questV_len⟩, trivial⟩ trivial rfl rfl (by kernel_rfl) (by simp only [V.mat, V.mat1, V.mat0, matL, matT, List.length_map]) (.ref rfl)

/- spec.SetOf -/
def inv_s_SetOf_1 (p0 : List Rec) (p1 : ByteArray) (p2 : Int) (v0_0 : List Rec) (v0_1 : Nat) (j1_0 : Bool) : St := mkT 40 [(0, .lst 6 (List.map recV p0)), (1, .sc (.string p1)), (2, .sc (.int .i64 p2)), (7, .ref (2007, 0) 0 v0_0.length), (8, .sc (.int .i64 (v0_1 : Int))), (31, .sc (.bool j1_0))] [((2007, 0), some ⟨36, 6, List.map recV v0_0, false, true⟩)]
def inv_s_SetOf_0 (p0 : List Rec) (p1 : ByteArray) (p2 : Int) (v0_0 : List Rec) (v0_1 : Nat) : St := mkT 40 [(0, .lst 6 (List.map recV p0)), (1, .sc (.string p1)), (2, .sc (.int .i64 p2)), (7, .ref (2007, 0) 0 v0_0.length), (8, .sc (.int .i64 (v0_1 : Int)))] [((2007, 0), some ⟨36, 6, List.map recV v0_0, false, true⟩)]
set_option maxRecDepth 4000 in
set_option maxHeartbeats 800000 in
theorem ws_SetOf (p0 : List Rec) (p1 : ByteArray) (p2 : Int) (r0 : List Rec) (h : s_SetOf p0 p1 p2 = some r0) : Runs Try.prog 32 [.lst 6 (List.map recV p0), .sc (.string p1), .sc (.int .i64 p2)] [] (.own 36 6 (List.map recV r0)) [] := by
  unfold s_SetOf at h
  refine runsR [.tmp 6] Try.func32 rfl rfl rfl rfl ?_
  rw [Try.ntmps32]
  refine tri_seq ?_
  refine tri_region ?_
  refine s_mv (.inr rfl) (v := .nils) rfl rfl rfl rfl ?_
  refine rt_nil ?_
  refine tri_seq ?_
  refine tri_region ?_
  refine s_buildSlice (rows' := List.map recV ([] : List Rec)) rfl rfl rfl sl27 zc36 rfl rfl rfl rfl rfl rfl rfl rfl rfl ?_
  refine s_mv (.inr rfl) (by conv => lhs; whnf) rfl rfl rfl ?_
  refine rt_nil ?_
  refine tri_seq ?_
  refine tri_seq ?_
  refine tri_region ?_
  refine s_mv (.inr rfl) (v := .sc (.int .i64 0)) rfl rfl rfl rfl ?_
  refine rt_nil ?_
  refine tri_block ?_
  refine tri_lstM 0 rfl (fun hl0 => ?_)
  refine tri_loop (ι := { p : (List Rec) × (List Rec) × Nat // p0.drop p.2.2 = p.1 ∧ s_SetOf_l0 p1 p2 p.1 p.2.1 p.2.2 = some r0 }) (fun p => inv_s_SetOf_0 p0 p1 p2 p.1.2.1 p.1.2.2) (fun p => p.1.1.length) ⟨(p0, ([] : List Rec), 0), rfl, h⟩ ?_ ?_
  · skip
    refine entX [((2007, 0), ⟨36, 6, List.map recV ([] : List Rec), false, true⟩, some (9, 0))] [] ⟨⟨rfl, _, rfl, rfl, rfl, rfl, id, rowsCv_eq rfl (allFree_map recV_free), rowsZ_map recV_len⟩, trivial⟩ trivial rfl rfl ?_
    exact ⟨(.free rfl), (.free rfl), (.free rfl), (.ref rfl), (.free rfl), trivial⟩
  · rintro ⟨⟨lrs0, v0_0, v0_1⟩, hd0, h⟩
    replace hd0 : p0.drop v0_1 = lrs0 := hd0
    replace h : s_SetOf_l0 p1 p2 lrs0 v0_0 v0_1 = some r0 := h
    show Tri _ _ _ (inv_s_SetOf_0 p0 p1 p2 v0_0 v0_1)
    refine tri_seq ?_
    refine tri_seq ?_
    refine tri_region ?_
    refine s_mv (.inl rfl) (by conv => lhs; whnf) rfl rfl rfl ?_
    refine s_mv (.inl rfl) (by conv => lhs; whnf) rfl rfl rfl ?_
    refine s_lenL rfl sl27 rfl rfl rfl rfl ?_
    refine s_of (st_lss rfl rfl rfl) rfl rfl rfl rfl ?_
    refine rt_nil ?_
    refine tri_cond rfl (fun c1 => ?_) (fun c1 => ?_)
    · refine drop_elim hd0 c1 fun e0 rs0 he hx0 hn0 => ?_
      subst he
      rw [s_SetOf_l0] at h
      refine tri_skip ?_
      refine tri_seq ?_
      refine tri_block ?_
      refine tri_cutI (ι := { p : Bool // s_SetOf_j1 v0_0 v0_1 e0 (s_SetOf_l0 p1 p2 rs0) p = some r0 }) (fun p => inv_s_SetOf_1 p0 p1 p2 v0_0 v0_1 p.1) ?_ ?_
      · skip
        refine tri_region ?_
        refine s_mv (.inl rfl) (by conv => lhs; whnf) rfl rfl rfl ?_
        refine s_mv (.inl rfl) (by conv => lhs; whnf) rfl rfl rfl ?_
        refine s_indexF (i := v0_1) rfl rfl rfl sl27 (get_ltM hx0) rfl rfl rfl ?_
        refine s_fieldAddrF rfl rfl fd36_0 rfl rfl rfl rfl ?_
        refine s_loadF rfl rfl (rowG hx0) ty9 rfl (.inr rfl) (by conv => lhs; whnf) rfl rfl rfl ?_
        refine s_mv (.inl rfl) (by conv => lhs; whnf) rfl rfl rfl ?_
        refine s_of (st_eqS rfl rfl rfl) rfl rfl rfl rfl ?_
        refine s_mv (.inl rfl) (by conv => lhs; whnf) rfl rfl rfl ?_
        refine s_split (t := 23) rfl (fun b2 => ?_) (fun b2 => ?_)
        · replace h := cond_t h b2
          refine s_mv (.inl rfl) (by conv => lhs; whnf) rfl rfl rfl ?_
          refine s_mv (.inl rfl) (by conv => lhs; whnf) rfl rfl rfl ?_
          refine s_indexF (i := v0_1) rfl rfl rfl sl27 (get_ltM hx0) rfl rfl rfl ?_
          refine s_fieldAddrF rfl rfl fd36_1 rfl rfl rfl rfl ?_
          refine s_loadF rfl rfl (rowG hx0) ty3 rfl (.inr rfl) (by conv => lhs; whnf) rfl rfl rfl ?_
          refine s_mv (.inl rfl) (by conv => lhs; whnf) rfl rfl rfl ?_
          refine s_of (st_eqI rfl rfl rfl) rfl rfl rfl rfl ?_
          refine s_pickT rfl rfl (by conv => lhs; whnf) rfl rfl rfl ?_
          refine rt_nil ?_
          refine Exists.intro ⟨decide (e0.ty = p2), h⟩ ?_
          refine entX [((2007, 0), ⟨36, 6, List.map recV v0_0, false, true⟩, some (2007, 0))] [] ⟨⟨rfl, _, rfl, rfl, rfl, rfl, id, rowsCv_eq rfl (allFree_map recV_free), rowsZ_map recV_len⟩, trivial⟩ trivial rfl rfl ?_
          exact ⟨(.free rfl), (.free rfl), (.free rfl), (.ref rfl), (.free rfl), (.free rfl), trivial⟩
        · replace h := cond_f h b2
          refine s_skip rfl rfl rfl ?_
          refine s_skip rfl rfl rfl ?_
          refine s_skip rfl rfl rfl ?_
          refine s_skip rfl rfl rfl ?_
          refine s_skip rfl rfl rfl ?_
          refine s_skip rfl rfl rfl ?_
          refine s_skip rfl rfl rfl ?_
          refine s_pickF rfl rfl (v := .sc (.bool false)) rfl rfl rfl rfl ?_
          refine rt_nil ?_
          refine Exists.intro ⟨false, h⟩ ?_
          refine entX [((2007, 0), ⟨36, 6, List.map recV v0_0, false, true⟩, some (2007, 0))] [] ⟨⟨rfl, _, rfl, rfl, rfl, rfl, id, rowsCv_eq rfl (allFree_map recV_free), rowsZ_map recV_len⟩, trivial⟩ trivial rfl rfl ?_
          exact ⟨(.free rfl), (.free rfl), (.free rfl), (.ref rfl), (.free rfl), (.free rfl), trivial⟩
      · rintro ⟨j1_0, h⟩
        replace h : s_SetOf_j1 v0_0 v0_1 e0 (s_SetOf_l0 p1 p2 rs0) j1_0 = some r0 := h
        unfold s_SetOf_j1 at h
        show Tri _ _ _ (inv_s_SetOf_1 p0 p1 p2 v0_0 v0_1 j1_0)
        refine tri_cond rfl (fun c2 => ?_) (fun c2 => ?_)
        · replace h := cond_t h c2
          refine tri_region ?_
          refine s_mv (.inl rfl) (by conv => lhs; whnf) rfl rfl rfl ?_
          refine s_mv (.inl rfl) (by conv => lhs; whnf) rfl rfl rfl ?_
          refine s_mv (.inl rfl) (by conv => lhs; whnf) rfl rfl rfl ?_
          refine s_indexF (i := v0_1) rfl rfl rfl sl27 (get_ltM hx0) rfl rfl rfl ?_
          refine s_loadFR rfl rfl (rowG hx0) ty36 rfl rfl rfl ?_
          refine s_buildSlice (rows' := List.map recV [e0]) rfl rfl rfl sl27 zc36 rfl rfl rfl rfl rfl rfl rfl rfl rfl ?_
          refine grd_elim h fun g3 h => ?_
          refine s_appL rfl rfl rfl sl27 zc36 rfl rfl rfl rfl rfl rfl (src_refL rfl rfl) g3 rfl rfl ?_
          refine s_mv (.inr rfl) (by conv => lhs; whnf) rfl rfl rfl ?_
          refine rt_nil ?_
          refine tri_region ?_
          refine s_mv (.inl rfl) (by conv => lhs; whnf) rfl rfl rfl ?_
          refine s_inc (a := v0_1) (b := 1) rfl rfl rfl rfl (by have := get_lt hx0; have := hl0; omega) rfl rfl rfl ?_
          refine s_mv (.inr rfl) (by conv => lhs; whnf) rfl rfl rfl ?_
          refine rt_nil ?_
          refine Exists.intro ⟨(rs0, v0_0 ++ [e0], (v0_1 + 1)), hn0, h⟩ (And.intro (Nat.lt_succ_self _) ?_)
          refine entX [((2007, 0), ⟨36, 6, List.map recV (v0_0 ++ [e0]), false, true⟩, some (38, 0))] [] ⟨⟨rfl, _, rfl, rfl, rfl, rfl, id, rowsCv_eq rfl (allFree_map recV_free), rowsZ_map recV_len⟩, trivial⟩ trivial rfl rfl ?_
          exact ⟨(.free rfl), (.free rfl), (.free rfl), (.ref rfl), (.free rfl), trivial⟩
        · replace h := cond_f h c2
          refine tri_skip ?_
          refine tri_region ?_
          refine s_mv (.inl rfl) (by conv => lhs; whnf) rfl rfl rfl ?_
          refine s_inc (a := v0_1) (b := 1) rfl rfl rfl rfl (by have := get_lt hx0; have := hl0; omega) rfl rfl rfl ?_
          refine s_mv (.inr rfl) (by conv => lhs; whnf) rfl rfl rfl ?_
          refine rt_nil ?_
          refine Exists.intro ⟨(rs0, v0_0, (v0_1 + 1)), hn0, h⟩ (And.intro (Nat.lt_succ_self _) ?_)
          refine entX [((2007, 0), ⟨36, 6, List.map recV v0_0, false, true⟩, some (2007, 0))] [] ⟨⟨rfl, _, rfl, rfl, rfl, rfl, id, rowsCv_eq rfl (allFree_map recV_free), rowsZ_map recV_len⟩, trivial⟩ trivial rfl rfl ?_
          exact ⟨(.free rfl), (.free rfl), (.free rfl), (.ref rfl), (.free rfl), trivial⟩
    · have he := drop_f hd0 c1; subst he
      rw [s_SetOf_l0] at h
      refine tri_exit ?_
      refine tri_seq ?_
      refine tri_region ?_
      refine s_mv (.inl rfl) (by conv => lhs; whnf) rfl rfl rfl ?_
      refine s_mv (.inr rfl) (by conv => lhs; whnf) rfl rfl rfl ?_
      refine rt_nil ?_
      refine tri_ret ?_
      have e0 := (some1 h); subst e0
      exact endY (v' := .ref (2000, 0) 0 v0_0.length) [((2000, 0), ⟨36, 6, List.map recV v0_0, false, true⟩, some (2007, 0))] [] (rvC (resTmp rfl) rvN) ⟨⟨rfl, _, rfl, rfl, rfl, rfl, id, rowsCv_eq rfl (allFree_map recV_free), rowsZ_map recV_len⟩, trivial⟩ trivial rfl rfl (by kernel_rfl) (by simp only [V.mat, V.mat1, V.mat0, matL, matT, List.length_map]) (.ref rfl)

/- laws.sameRecs -/
def inv_w_sameRecs_0 (p0 : List Rec) (p1 : List Rec) (v0_0 : Nat) : St := mkT 26 [(0, .lst 6 (List.map recV p0)), (1, .lst 6 (List.map recV p1)), (5, .sc (.int .i64 (v0_0 : Int)))] []
set_option maxRecDepth 4000 in
set_option maxHeartbeats 800000 in
theorem ww_sameRecs (p0 : List Rec) (p1 : List Rec) (r0 : Bool) (h : w_sameRecs p0 p1 = some r0) : Runs Try.prog 57 [.lst 6 (List.map recV p0), .lst 6 (List.map recV p1)] [] (.sc (.bool r0)) [] := by
  unfold w_sameRecs at h
  refine runsR [.tmp 4] Try.func57 rfl rfl rfl rfl ?_
  rw [Try.ntmps57]
  refine tri_seq ?_
  refine tri_region ?_
  refine s_mv (.inr rfl) (v := .sc (.bool false)) rfl rfl rfl rfl ?_
  refine rt_nil ?_
  refine tri_seq ?_
  refine tri_seq ?_
  refine tri_region ?_
  refine s_mv (.inl rfl) (by conv => lhs; whnf) rfl rfl rfl ?_
  refine s_lenL rfl sl27 rfl rfl rfl rfl ?_
  refine s_mv (.inl rfl) (by conv => lhs; whnf) rfl rfl rfl ?_
  refine s_lenL rfl sl27 rfl rfl rfl rfl ?_
  refine s_of (st_neI rfl rfl rfl) rfl rfl rfl rfl ?_
  refine rt_nil ?_
  refine tri_cond rfl (fun c1 => ?_) (fun c1 => ?_)
  · replace h := cond_t h c1
    refine tri_seq ?_
    refine tri_region ?_
    refine s_mv (.inr rfl) (v := .sc (.bool false)) rfl rfl rfl rfl ?_
    refine rt_nil ?_
    refine tri_ret ?_
    have e0 := (some1 h); subst e0
    exact endY [] [] (rvC (resTmp rfl) rvN) trivial trivial rfl rfl rfl rfl (.free rfl)
  · replace h := cond_f h c1
    refine tri_skip ?_
    refine tri_seq ?_
    refine tri_seq ?_
    refine tri_region ?_
    refine s_mv (.inr rfl) (v := .sc (.int .i64 0)) rfl rfl rfl rfl ?_
    refine rt_nil ?_
    refine tri_block ?_
    refine tri_lstM 0 rfl (fun hl0 => ?_)
    refine tri_loop (ι := { p : (List Rec) × Nat // p0.drop p.2 = p.1 ∧ w_sameRecs_l0 p1 p.1 p.2 = some r0 }) (fun p => inv_w_sameRecs_0 p0 p1 p.1.2) (fun p => p.1.1.length) ⟨(p0, 0), rfl, h⟩ ?_ ?_
    · skip
      refine entX [] [] trivial trivial rfl rfl ?_
      exact ⟨(.free rfl), (.free rfl), (.free rfl), trivial⟩
    · rintro ⟨⟨lrs0, v0_0⟩, hd0, h⟩
      replace hd0 : p0.drop v0_0 = lrs0 := hd0
      replace h : w_sameRecs_l0 p1 lrs0 v0_0 = some r0 := h
      show Tri _ _ _ (inv_w_sameRecs_0 p0 p1 v0_0)
      refine tri_seq ?_
      refine tri_seq ?_
      refine tri_region ?_
      refine s_mv (.inl rfl) (by conv => lhs; whnf) rfl rfl rfl ?_
      refine s_mv (.inl rfl) (by conv => lhs; whnf) rfl rfl rfl ?_
      refine s_lenL rfl sl27 rfl rfl rfl rfl ?_
      refine s_of (st_lss rfl rfl rfl) rfl rfl rfl rfl ?_
      refine rt_nil ?_
      refine tri_cond rfl (fun c2 => ?_) (fun c2 => ?_)
      · refine drop_elim hd0 c2 fun e0 rs0 he hx0 hn0 => ?_
        subst he
        rw [w_sameRecs_l0] at h
        refine tri_skip ?_
        refine tri_seq ?_
        refine tri_block ?_
        refine tri_seq ?_
        refine tri_draw mixed ?_
        refine s_mv (.inl rfl) (by conv => lhs; whnf) rfl rfl rfl ?_
        refine s_mv (.inl rfl) (by conv => lhs; whnf) rfl rfl rfl ?_
        refine s_indexF (i := v0_0) rfl rfl rfl sl27 (get_ltM hx0) rfl rfl rfl ?_
        refine s_loadFR rfl rfl (rowG hx0) ty36 rfl rfl rfl ?_
        refine s_mv (.inl rfl) (by conv => lhs; whnf) rfl rfl rfl ?_
        refine s_mv (.inl rfl) (by conv => lhs; whnf) rfl rfl rfl ?_
        refine bnd1_elim h fun x3 q4 h => ?_
        have q4a := (idx_some q4).1; have q4b := (idx_some q4).2
        refine s_indexFZ rfl rfl rfl sl27 q4a (get_ltM q4b) rfl rfl rfl ?_
        refine s_loadFR rfl rfl (rowG q4b) ty36 rfl rfl rfl ?_
        refine s_neStruct (r' := (decide (e0.name = x3.name) && (decide (e0.ty = x3.ty) && (decide (e0.ttl = x3.ttl) && (decide (e0.n = x3.n) && (decide (e0.host = x3.host) && (decide (e0.text = x3.text) && true))))))) rfl rfl rfl fk36 rfl rfl rfl rfl rfl ?_
        refine rt_nil ⟨by kernel_rfl, ?_⟩
        refine tri_cond rfl (fun c5 => ?_) (fun c5 => ?_)
        · replace h := cond_t h c5
          refine tri_seq ?_
          refine tri_region ?_
          refine s_mv (.inr rfl) (v := .sc (.bool false)) rfl rfl rfl rfl ?_
          refine rt_nil ?_
          refine tri_ret ?_
          have e0 := (some1 h); subst e0
          exact endY [] [] (rvC (resTmp rfl) rvN) trivial trivial rfl rfl rfl rfl (.free rfl)
        · replace h := cond_f h c5
          refine tri_skip ?_
          refine tri_region ?_
          refine s_mv (.inl rfl) (by conv => lhs; whnf) rfl rfl rfl ?_
          refine s_inc (a := v0_0) (b := 1) rfl rfl rfl rfl (by have := get_lt hx0; have := hl0; omega) rfl rfl rfl ?_
          refine s_mv (.inr rfl) (by conv => lhs; whnf) rfl rfl rfl ?_
          refine rt_nil ?_
          refine Exists.intro ⟨(rs0, (v0_0 + 1)), hn0, h⟩ (And.intro (Nat.lt_succ_self _) ?_)
          refine entX [] [] trivial trivial rfl rfl ?_
          exact ⟨(.free rfl), (.free rfl), (.free rfl), trivial⟩
      · have he := drop_f hd0 c2; subst he
        rw [w_sameRecs_l0] at h
        refine tri_exit ?_
        refine tri_seq ?_
        refine tri_region ?_
        refine s_mv (.inr rfl) (v := .sc (.bool true)) rfl rfl rfl rfl ?_
        refine rt_nil ?_
        refine tri_ret ?_
        have e0 := (some1 h); subst e0
        exact endY [] [] (rvC (resTmp rfl) rvN) trivial trivial rfl rfl rfl rfl (.free rfl)

/- impl.Record] -/

set_option maxRecDepth 4000 in
set_option maxHeartbeats 800000 in
theorem wslices_Clone_Record (p0 : List Rec) (r0 : List Rec) (h : slices_Clone_Record p0 = some r0) : Runs Try.prog 73 [.lst 6 (List.map recV p0)] [] (.own 36 6 (List.map recV r0)) [] := by
  unfold slices_Clone_Record at h
  refine runsR [.tmp 2] Try.func73 rfl rfl rfl rfl ?_
  rw [Try.ntmps73]
  refine tri_seq ?_
  refine tri_region ?_
  refine s_mv (.inr rfl) (v := .nils) rfl rfl rfl rfl ?_
  refine rt_nil ?_
  refine tri_seq ?_
  refine tri_seq ?_
  refine tri_isNil rfl (by conv => lhs; whnf) rfl rfl rfl rfl rfl slenL sl27 rfl rfl rfl (fun b1v b1 => ?_)
  refine tri_cond rfl (fun c2 => ?_) (fun c2 => ?_)
  · obtain rfl : p0 = [] := List.eq_nil_of_length_eq_zero (b1 c2)
    refine tri_seq ?_
    refine tri_region ?_
    refine s_mv (.inr rfl) (v := .nils) rfl rfl rfl rfl ?_
    refine rt_nil ?_
    refine tri_ret ?_
    replace h : some ([] : List Rec) = some r0 := by simpa [grd] using h
    have e0 := (some1 h); subst e0
    exact endY (v' := .ref (2000, 0) 0 (([] : List Rec).length)) [((2000, 0), ⟨36, 6, List.map recV ([] : List Rec), false, true⟩, none)] [] (rvC (resTmp rfl) rvN) ⟨rfl, trivial⟩ trivial rfl rfl (by kernel_rfl) (by simp only [V.mat, V.mat1, V.mat0, matL, matT, List.length_map]) (.nilRef rfl)
  · skip
    refine tri_skip ?_
    refine tri_seq ?_
    refine tri_region ?_
    refine s_buildSlice (rows' := List.map recV ([] : List Rec)) rfl rfl rfl sl27 zc36 rfl rfl rfl rfl rfl rfl rfl rfl rfl ?_
    refine s_mv (.inl rfl) (by conv => lhs; whnf) rfl rfl rfl ?_
    refine grd_elim h fun g3 h => ?_
    refine s_appL rfl rfl rfl sl27 zc36 rfl rfl rfl rfl rfl rfl src_lst g3 rfl rfl ?_
    refine s_mv (.inr rfl) (by conv => lhs; whnf) rfl rfl rfl ?_
    refine rt_nil ?_
    refine tri_ret ?_
    have e0 := (some1 h); subst e0
    exact endY (v' := .ref (2000, 0) 0 ((([] : List Rec) ++ p0).length)) [((2000, 0), ⟨36, 6, List.map recV (([] : List Rec) ++ p0), false, true⟩, some (7, 0))] [] (rvC (resTmp rfl) rvN) ⟨⟨rfl, _, rfl, rfl, rfl, rfl, id, rowsCv_eq rfl (allFree_map recV_free), rowsZ_map recV_len⟩, trivial⟩ trivial rfl rfl (by kernel_rfl) (by simp only [V.mat, V.mat1, V.mat0, matL, matT, List.length_map]) (.ref rfl)

/- impl.WithTtl -/
def inv_i_WithTtl_0 (p1 : Int) (x1 : List Rec) (v0_0 : List Rec) (v0_1 : Nat) : St := mkT 21 [(1, .sc (.int .i64 p1)), (5, .ref (8, 0) 0 v0_0.length), (10, .sc (.int .i64 (x1.length : Int))), (11, .sc (.int .i64 (v0_1 : Int)))] [((8, 0), some ⟨36, 6, List.map recV v0_0, false, true⟩)]
set_option maxRecDepth 4000 in
set_option maxHeartbeats 800000 in
theorem wi_WithTtl (p0 : List Rec) (p1 : Int) (r0 : List Rec) (h : i_WithTtl p0 p1 = some r0) : Runs Try.prog 37 [.lst 6 (List.map recV p0), .sc (.int .i64 p1)] [] (.own 36 6 (List.map recV r0)) [] := by
  unfold i_WithTtl at h
  refine runsR [.tmp 4] Try.func37 rfl rfl rfl rfl ?_
  rw [Try.ntmps37]
  refine tri_seq ?_
  refine tri_region ?_
  refine s_mv (.inr rfl) (v := .nils) rfl rfl rfl rfl ?_
  refine rt_nil ?_
  refine tri_seq ?_
  refine tri_region ?_
  refine s_mv (.inl rfl) (by conv => lhs; whnf) rfl rfl rfl ?_
  refine bnd1_elim h fun x1 q2 h => ?_
  refine s_callN (kb := []) (ns := []) (v := .ref (8, 0) 0 x1.length) rfl rfl cl73 (wslices_Clone_Record p0 x1 q2) rfl (.cons (.free rfl) .nil) trivial memNil .nil memNil rfl ⟨(allSc_map recV_sc), trivial⟩ memNil rfl (by simp only [V.mat, V.mat1, V.mat0, matL, matT, List.length_map]) rfl rfl rfl rfl ?_
  refine s_mv (.inr rfl) (by conv => lhs; whnf) rfl rfl rfl ?_
  refine rt_nil ?_
  refine tri_seq ?_
  refine tri_seq ?_
  refine tri_region ?_
  refine s_mv (.inl rfl) (by conv => lhs; whnf) rfl rfl rfl ?_
  refine s_len (m := x1.length) rfl sl27 rfl rfl rfl rfl ?_
  refine s_mv (.inl rfl) (v := .sc (.int .i64 0)) rfl rfl rfl rfl ?_
  refine rt_nil ?_
  refine tri_block ?_
  refine tri_ownM (8, 0) rfl (fun hl0 => ?_)
  refine tri_loop (ι := { p : (List Rec) × (List Rec) × Nat // x1.drop p.2.2 = p.1 ∧ i_WithTtl_l0 p1 p.1 p.2.1 p.2.2 = some r0 }) (fun p => inv_i_WithTtl_0 p1 x1 p.1.2.1 p.1.2.2) (fun p => p.1.1.length) ⟨(x1, x1, 0), rfl, h⟩ ?_ ?_
  · skip
    refine entX [((8, 0), ⟨36, 6, List.map recV x1, false, true⟩, some (8, 0))] [] ⟨⟨rfl, _, rfl, rfl, rfl, rfl, id, rowsCv_eq rfl (allFree_map recV_free), rowsZ_map recV_len⟩, trivial⟩ trivial rfl rfl ?_
    exact ⟨(.free rfl), (.ref rfl), (.free rfl), (.free rfl), trivial⟩
  · rintro ⟨⟨lrs0, v0_0, v0_1⟩, hd0, h⟩
    replace hd0 : x1.drop v0_1 = lrs0 := hd0
    replace h : i_WithTtl_l0 p1 lrs0 v0_0 v0_1 = some r0 := h
    show Tri _ _ _ (inv_i_WithTtl_0 p1 x1 v0_0 v0_1)
    refine tri_seq ?_
    refine tri_region ?_
    refine s_of (st_lss rfl rfl rfl) rfl rfl rfl rfl ?_
    refine rt_nil ?_
    refine tri_seq ?_
    refine tri_cond rfl (fun c3 => ?_) (fun c3 => ?_)
    · refine drop_elim hd0 c3 fun e0 rs0 he hx0 hn0 => ?_
      subst he
      rw [i_WithTtl_l0] at h
      refine tri_skip ?_
      refine tri_seq ?_
      refine tri_block ?_
      refine tri_seq ?_
      refine tri_region ?_
      refine s_mv (.inl rfl) (by conv => lhs; whnf) rfl rfl rfl ?_
      refine s_mv (.inr rfl) (by conv => lhs; whnf) rfl rfl rfl ?_
      refine rt_nil ?_
      refine tri_region ?_
      refine s_mv (.inl rfl) (by conv => lhs; whnf) rfl rfl rfl ?_
      refine s_mv (.inl rfl) (by conv => lhs; whnf) rfl rfl rfl ?_
      refine s_mv (.inl rfl) (by conv => lhs; whnf) rfl rfl rfl ?_
      refine bnd1_elim h fun x4 q5 h => ?_
      have q5a := (idx_some q5).1; have q5b := (idx_some q5).2
      refine s_indexZ rfl rfl rfl rfl sl27 rfl q5a (get_lt q5b) rfl rfl rfl ?_
      refine s_fieldAddr rfl rfl fd36_2 rfl rfl rfl rfl ?_
      refine s_storeL (x' := Rec.mk x4.name x4.ty p1 x4.n x4.host x4.text) rfl rfl rfl q5b ty3 rfl rfl rfl rfl rfl rfl ?_
      refine rt_nil ?_
      refine tri_region ?_
      refine s_inc (a := v0_1) (b := 1) rfl rfl rfl rfl (by have := get_lt hx0; have := hl0; omega) rfl rfl rfl ?_
      refine s_mv (.inl rfl) (by conv => lhs; whnf) rfl rfl rfl ?_
      refine rt_nil ?_
      refine Exists.intro ⟨(rs0, v0_0.set ((v0_1 : Int).toNat) (Rec.mk x4.name x4.ty p1 x4.n x4.host x4.text), (v0_1 + 1)), hn0, h⟩ (And.intro (Nat.lt_succ_self _) ?_)
      refine entX [((8, 0), ⟨36, 6, List.map recV (v0_0.set ((v0_1 : Int).toNat) (Rec.mk x4.name x4.ty p1 x4.n x4.host x4.text)), false, true⟩, some (8, 0))] [] ⟨⟨rfl, _, rfl, rfl, rfl, rfl, id, rowsCv_eq rfl (allFree_map recV_free), rowsZ_map recV_len⟩, trivial⟩ trivial rfl rfl ?_
      exact ⟨(.free rfl), (cvRefLen rfl (by simp only [List.length_set])), (.free rfl), (.free rfl), trivial⟩
    · have he := drop_f hd0 c3; subst he
      rw [i_WithTtl_l0] at h
      refine tri_exit ?_
      refine tri_seq ?_
      refine tri_region ?_
      refine s_mv (.inl rfl) (by conv => lhs; whnf) rfl rfl rfl ?_
      refine s_mv (.inr rfl) (by conv => lhs; whnf) rfl rfl rfl ?_
      refine rt_nil ?_
      refine tri_ret ?_
      have e0 := (some1 h); subst e0
      exact endY (v' := .ref (2000, 0) 0 v0_0.length) [((2000, 0), ⟨36, 6, List.map recV v0_0, false, true⟩, some (8, 0))] [] (rvC (resTmp rfl) rvN) ⟨⟨rfl, _, rfl, rfl, rfl, rfl, id, rowsCv_eq rfl (allFree_map recV_free), rowsZ_map recV_len⟩, trivial⟩ trivial rfl rfl (by kernel_rfl) (by simp only [V.mat, V.mat1, V.mat0, matL, matT, List.length_map]) (.ref rfl)

/- spec.l7Copy -/

set_option maxRecDepth 4000 in
set_option maxHeartbeats 800000 in
theorem ws_l7Copy (p0 : List Rec) (r0 : List Rec) (h : s_l7Copy p0 = some r0) : Runs Try.prog 72 [.lst 6 (List.map recV p0)] [] (.own 36 6 (List.map recV r0)) [] := by
  unfold s_l7Copy at h
  refine runsR [.tmp 2] Try.func72 rfl rfl rfl rfl ?_
  rw [Try.ntmps72]
  refine tri_seq ?_
  refine tri_region ?_
  refine s_mv (.inr rfl) (v := .nils) rfl rfl rfl rfl ?_
  refine rt_nil ?_
  refine tri_seq ?_
  refine tri_region ?_
  refine s_buildSlice (rows' := List.map recV ([] : List Rec)) rfl rfl rfl sl27 zc36 rfl rfl rfl rfl rfl rfl rfl rfl rfl ?_
  refine s_mv (.inl rfl) (by conv => lhs; whnf) rfl rfl rfl ?_
  refine grd_elim h fun g1 h => ?_
  refine s_appL rfl rfl rfl sl27 zc36 rfl rfl rfl rfl rfl rfl src_lst g1 rfl rfl ?_
  refine s_mv (.inr rfl) (by conv => lhs; whnf) rfl rfl rfl ?_
  refine rt_nil ?_
  refine tri_ret ?_
  have e0 := (some1 h); subst e0
  exact endY (v' := .ref (2000, 0) 0 ((([] : List Rec) ++ p0).length)) [((2000, 0), ⟨36, 6, List.map recV (([] : List Rec) ++ p0), false, true⟩, some (5, 0))] [] (rvC (resTmp rfl) rvN) ⟨⟨rfl, _, rfl, rfl, rfl, rfl, id, rowsCv_eq rfl (allFree_map recV_free), rowsZ_map recV_len⟩, trivial⟩ trivial rfl rfl (by kernel_rfl) (by simp only [V.mat, V.mat1, V.mat0, matL, matT, List.length_map]) (.ref rfl)

/- spec.WithTtl -/
def inv_s_WithTtl_0 (p1 : Int) (v0_0 : List Rec) (v0_1 : Int) : St := mkT 21 [(1, .sc (.int .i64 p1)), (5, .ref (8, 0) 0 v0_0.length), (6, .sc (.int .i64 v0_1))] [((8, 0), some ⟨36, 6, List.map recV v0_0, false, true⟩)]
set_option maxRecDepth 4000 in
set_option maxHeartbeats 800000 in
theorem ws_WithTtl (p0 : List Rec) (p1 : Int) (r0 : List Rec) (h : s_WithTtl p0 p1 = some r0) : Runs Try.prog 36 [.lst 6 (List.map recV p0), .sc (.int .i64 p1)] [] (.own 36 6 (List.map recV r0)) [] := by
  unfold s_WithTtl at h
  refine runsR [.tmp 4] Try.func36 rfl rfl rfl rfl ?_
  rw [Try.ntmps36]
  refine tri_seq ?_
  refine tri_region ?_
  refine s_mv (.inr rfl) (v := .nils) rfl rfl rfl rfl ?_
  refine rt_nil ?_
  refine tri_seq ?_
  refine tri_region ?_
  refine s_mv (.inl rfl) (by conv => lhs; whnf) rfl rfl rfl ?_
  refine bnd1_elim h fun x1 q2 h => ?_
  refine s_callN (kb := []) (ns := []) (v := .ref (8, 0) 0 x1.length) rfl rfl cl72 (ws_l7Copy p0 x1 q2) rfl (.cons (.free rfl) .nil) trivial memNil .nil memNil rfl ⟨(allSc_map recV_sc), trivial⟩ memNil rfl (by simp only [V.mat, V.mat1, V.mat0, matL, matT, List.length_map]) rfl rfl rfl rfl ?_
  refine s_mv (.inr rfl) (by conv => lhs; whnf) rfl rfl rfl ?_
  refine rt_nil ?_
  refine tri_seq ?_
  refine tri_seq ?_
  refine tri_region ?_
  refine s_mv (.inr rfl) (v := .sc (.int .i64 0)) rfl rfl rfl rfl ?_
  refine rt_nil ?_
  refine tri_block ?_
  refine tri_loop (ι := { p : Nat × (List Rec) × Int // s_WithTtl_l0 p1 p.1 p.2.1 p.2.2 = some r0 }) (fun p => inv_s_WithTtl_0 p1 p.1.2.1 p.1.2.2) (fun p => p.1.1) ⟨(fuel0, x1, 0), h⟩ ?_ ?_
  · skip
    refine entX [((8, 0), ⟨36, 6, List.map recV x1, false, true⟩, some (8, 0))] [] ⟨⟨rfl, _, rfl, rfl, rfl, rfl, id, rowsCv_eq rfl (allFree_map recV_free), rowsZ_map recV_len⟩, trivial⟩ trivial rfl rfl ?_
    exact ⟨(.free rfl), (.ref rfl), (.free rfl), trivial⟩
  · rintro ⟨⟨f0, v0_0, v0_1⟩, h⟩
    replace h : s_WithTtl_l0 p1 f0 v0_0 v0_1 = some r0 := h
    cases f0 with
    | zero => cases h
    | succ f0 =>
    rw [s_WithTtl_l0] at h
    show Tri _ _ _ (inv_s_WithTtl_0 p1 v0_0 v0_1)
    refine tri_seq ?_
    refine tri_seq ?_
    refine tri_region ?_
    refine s_mv (.inl rfl) (by conv => lhs; whnf) rfl rfl rfl ?_
    refine s_mv (.inl rfl) (by conv => lhs; whnf) rfl rfl rfl ?_
    refine s_len (m := v0_0.length) rfl sl27 rfl rfl rfl rfl ?_
    refine s_of (st_lss rfl rfl rfl) rfl rfl rfl rfl ?_
    refine rt_nil ?_
    refine tri_cond rfl (fun c3 => ?_) (fun c3 => ?_)
    · replace h := cond_t h c3
      refine tri_skip ?_
      refine tri_seq ?_
      refine tri_block ?_
      refine tri_region ?_
      refine s_mv (.inl rfl) (by conv => lhs; whnf) rfl rfl rfl ?_
      refine s_mv (.inl rfl) (by conv => lhs; whnf) rfl rfl rfl ?_
      refine s_mv (.inl rfl) (by conv => lhs; whnf) rfl rfl rfl ?_
      refine bnd1_elim h fun x4 q5 h => ?_
      have q5a := (idx_some q5).1; have q5b := (idx_some q5).2
      refine s_indexZ rfl rfl rfl rfl sl27 rfl q5a (get_lt q5b) rfl rfl rfl ?_
      refine s_fieldAddr rfl rfl fd36_2 rfl rfl rfl rfl ?_
      refine s_storeL (x' := Rec.mk x4.name x4.ty p1 x4.n x4.host x4.text) rfl rfl rfl q5b ty3 rfl rfl rfl rfl rfl rfl ?_
      refine rt_nil ?_
      refine tri_region ?_
      refine s_mv (.inl rfl) (by conv => lhs; whnf) rfl rfl rfl ?_
      refine grd_elim h fun g6 h => ?_
      refine s_addI rfl rfl rfl rfl g6 rfl rfl rfl ?_
      refine s_mv (.inr rfl) (by conv => lhs; whnf) rfl rfl rfl ?_
      refine rt_nil ?_
      refine Exists.intro ⟨(f0, v0_0.set v0_1.toNat (Rec.mk x4.name x4.ty p1 x4.n x4.host x4.text), v0_1 + 1), h⟩ (And.intro (Nat.lt_succ_self _) ?_)
      refine entX [((8, 0), ⟨36, 6, List.map recV (v0_0.set v0_1.toNat (Rec.mk x4.name x4.ty p1 x4.n x4.host x4.text)), false, true⟩, some (8, 0))] [] ⟨⟨rfl, _, rfl, rfl, rfl, rfl, id, rowsCv_eq rfl (allFree_map recV_free), rowsZ_map recV_len⟩, trivial⟩ trivial rfl rfl ?_
      exact ⟨(.free rfl), (cvRefLen rfl (by simp only [List.length_set])), (.free rfl), trivial⟩
    · replace h := cond_f h c3
      refine tri_exit ?_
      refine tri_seq ?_
      refine tri_region ?_
      refine s_mv (.inl rfl) (by conv => lhs; whnf) rfl rfl rfl ?_
      refine s_mv (.inr rfl) (by conv => lhs; whnf) rfl rfl rfl ?_
      refine rt_nil ?_
      refine tri_ret ?_
      have e0 := (some1 h); subst e0
      exact endY (v' := .ref (2000, 0) 0 v0_0.length) [((2000, 0), ⟨36, 6, List.map recV v0_0, false, true⟩, some (8, 0))] [] (rvC (resTmp rfl) rvN) ⟨⟨rfl, _, rfl, rfl, rfl, rfl, id, rowsCv_eq rfl (allFree_map recV_free), rowsZ_map recV_len⟩, trivial⟩ trivial rfl rfl (by kernel_rfl) (by simp only [V.mat, V.mat1, V.mat0, matL, matT, List.length_map]) (.ref rfl)

/- spec.LeastTtl -/
def inv_s_LeastTtl_1 (p0 : List Rec) (v0_0 : Int) (v0_1 : Nat) (j1_0 : Bool) : St := mkT 28 [(0, .lst 6 (List.map recV p0)), (3, .sc (.int .i64 v0_0)), (4, .sc (.int .i64 (v0_1 : Int))), (21, .sc (.bool j1_0))] []
def inv_s_LeastTtl_0 (p0 : List Rec) (v0_0 : Int) (v0_1 : Nat) : St := mkT 28 [(0, .lst 6 (List.map recV p0)), (3, .sc (.int .i64 v0_0)), (4, .sc (.int .i64 (v0_1 : Int)))] []
set_option maxRecDepth 4000 in
set_option maxHeartbeats 800000 in
theorem ws_LeastTtl (p0 : List Rec) (r0 : Int) (h : s_LeastTtl p0 = some r0) : Runs Try.prog 18 [.lst 6 (List.map recV p0)] [] (.sc (.int .i64 r0)) [] := by
  unfold s_LeastTtl at h
  refine runsR [.tmp 2] Try.func18 rfl rfl rfl rfl ?_
  rw [Try.ntmps18]
  refine tri_seq ?_
  refine tri_region ?_
  refine s_mv (.inr rfl) (v := .sc (.int .i64 0)) rfl rfl rfl rfl ?_
  refine rt_nil ?_
  refine tri_seq ?_
  refine tri_region ?_
  refine s_mv (.inr rfl) (v := .sc (.int .i64 0)) rfl rfl rfl rfl ?_
  refine rt_nil ?_
  refine tri_seq ?_
  refine tri_seq ?_
  refine tri_region ?_
  refine s_mv (.inr rfl) (v := .sc (.int .i64 0)) rfl rfl rfl rfl ?_
  refine rt_nil ?_
  refine tri_block ?_
  refine tri_lstM 0 rfl (fun hl0 => ?_)
  refine tri_loop (ι := { p : (List Rec) × Int × Nat // p0.drop p.2.2 = p.1 ∧ s_LeastTtl_l0 p.1 p.2.1 p.2.2 = some r0 }) (fun p => inv_s_LeastTtl_0 p0 p.1.2.1 p.1.2.2) (fun p => p.1.1.length) ⟨(p0, 0, 0), rfl, h⟩ ?_ ?_
  · skip
    refine entX [] [] trivial trivial rfl rfl ?_
    exact ⟨(.free rfl), (.free rfl), (.free rfl), trivial⟩
  · rintro ⟨⟨lrs0, v0_0, v0_1⟩, hd0, h⟩
    replace hd0 : p0.drop v0_1 = lrs0 := hd0
    replace h : s_LeastTtl_l0 lrs0 v0_0 v0_1 = some r0 := h
    show Tri _ _ _ (inv_s_LeastTtl_0 p0 v0_0 v0_1)
    refine tri_seq ?_
    refine tri_seq ?_
    refine tri_region ?_
    refine s_mv (.inl rfl) (by conv => lhs; whnf) rfl rfl rfl ?_
    refine s_mv (.inl rfl) (by conv => lhs; whnf) rfl rfl rfl ?_
    refine s_lenL rfl sl27 rfl rfl rfl rfl ?_
    refine s_of (st_lss rfl rfl rfl) rfl rfl rfl rfl ?_
    refine rt_nil ?_
    refine tri_cond rfl (fun c1 => ?_) (fun c1 => ?_)
    · refine drop_elim hd0 c1 fun e0 rs0 he hx0 hn0 => ?_
      subst he
      rw [s_LeastTtl_l0] at h
      refine tri_skip ?_
      refine tri_seq ?_
      refine tri_block ?_
      refine tri_cutI (ι := { p : Bool // s_LeastTtl_j1 v0_0 v0_1 e0 (s_LeastTtl_l0 rs0) p = some r0 }) (fun p => inv_s_LeastTtl_1 p0 v0_0 v0_1 p.1) ?_ ?_
      · skip
        refine tri_region ?_
        refine s_mv (.inl rfl) (by conv => lhs; whnf) rfl rfl rfl ?_
        refine s_of (st_eqI rfl rfl rfl) rfl rfl rfl rfl ?_
        refine s_mv (.inl rfl) (by conv => lhs; whnf) rfl rfl rfl ?_
        refine s_split (t := 13) rfl (fun b2 => ?_) (fun b2 => ?_)
        · replace h := cond_t h b2
          refine s_skip rfl rfl rfl ?_
          refine s_skip rfl rfl rfl ?_
          refine s_skip rfl rfl rfl ?_
          refine s_skip rfl rfl rfl ?_
          refine s_skip rfl rfl rfl ?_
          refine s_skip rfl rfl rfl ?_
          refine s_skip rfl rfl rfl ?_
          refine s_pickT rfl rfl (v := .sc (.bool true)) rfl rfl rfl rfl ?_
          refine rt_nil ?_
          refine Exists.intro ⟨true, h⟩ ?_
          refine entX [] [] trivial trivial rfl rfl ?_
          exact ⟨(.free rfl), (.free rfl), (.free rfl), (.free rfl), trivial⟩
        · replace h := cond_f h b2
          refine s_mv (.inl rfl) (by conv => lhs; whnf) rfl rfl rfl ?_
          refine s_mv (.inl rfl) (by conv => lhs; whnf) rfl rfl rfl ?_
          refine s_indexF (i := v0_1) rfl rfl rfl sl27 (get_ltM hx0) rfl rfl rfl ?_
          refine s_fieldAddrF rfl rfl fd36_2 rfl rfl rfl rfl ?_
          refine s_loadF rfl rfl (rowG hx0) ty3 rfl (.inr rfl) (by conv => lhs; whnf) rfl rfl rfl ?_
          refine s_mv (.inl rfl) (by conv => lhs; whnf) rfl rfl rfl ?_
          refine s_of (st_lss rfl rfl rfl) rfl rfl rfl rfl ?_
          refine s_pickF rfl rfl (by conv => lhs; whnf) rfl rfl rfl ?_
          refine rt_nil ?_
          refine Exists.intro ⟨decide (e0.ttl < v0_0), h⟩ ?_
          refine entX [] [] trivial trivial rfl rfl ?_
          exact ⟨(.free rfl), (.free rfl), (.free rfl), (.free rfl), trivial⟩
      · rintro ⟨j1_0, h⟩
        replace h : s_LeastTtl_j1 v0_0 v0_1 e0 (s_LeastTtl_l0 rs0) j1_0 = some r0 := h
        unfold s_LeastTtl_j1 at h
        show Tri _ _ _ (inv_s_LeastTtl_1 p0 v0_0 v0_1 j1_0)
        refine tri_cond rfl (fun c2 => ?_) (fun c2 => ?_)
        · replace h := cond_t h c2
          refine tri_region ?_
          refine s_mv (.inl rfl) (by conv => lhs; whnf) rfl rfl rfl ?_
          refine s_mv (.inl rfl) (by conv => lhs; whnf) rfl rfl rfl ?_
          refine s_indexF (i := v0_1) rfl rfl rfl sl27 (get_ltM hx0) rfl rfl rfl ?_
          refine s_fieldAddrF rfl rfl fd36_2 rfl rfl rfl rfl ?_
          refine s_loadF rfl rfl (rowG hx0) ty3 rfl (.inr rfl) (by conv => lhs; whnf) rfl rfl rfl ?_
          refine s_mv (.inr rfl) (by conv => lhs; whnf) rfl rfl rfl ?_
          refine rt_nil ?_
          refine tri_region ?_
          refine s_mv (.inl rfl) (by conv => lhs; whnf) rfl rfl rfl ?_
          refine s_inc (a := v0_1) (b := 1) rfl rfl rfl rfl (by have := get_lt hx0; have := hl0; omega) rfl rfl rfl ?_
          refine s_mv (.inr rfl) (by conv => lhs; whnf) rfl rfl rfl ?_
          refine rt_nil ?_
          refine Exists.intro ⟨(rs0, e0.ttl, (v0_1 + 1)), hn0, h⟩ (And.intro (Nat.lt_succ_self _) ?_)
          refine entX [] [] trivial trivial rfl rfl ?_
          exact ⟨(.free rfl), (.free rfl), (.free rfl), trivial⟩
        · replace h := cond_f h c2
          refine tri_skip ?_
          refine tri_region ?_
          refine s_mv (.inl rfl) (by conv => lhs; whnf) rfl rfl rfl ?_
          refine s_inc (a := v0_1) (b := 1) rfl rfl rfl rfl (by have := get_lt hx0; have := hl0; omega) rfl rfl rfl ?_
          refine s_mv (.inr rfl) (by conv => lhs; whnf) rfl rfl rfl ?_
          refine rt_nil ?_
          refine Exists.intro ⟨(rs0, v0_0, (v0_1 + 1)), hn0, h⟩ (And.intro (Nat.lt_succ_self _) ?_)
          refine entX [] [] trivial trivial rfl rfl ?_
          exact ⟨(.free rfl), (.free rfl), (.free rfl), trivial⟩
    · have he := drop_f hd0 c1; subst he
      rw [s_LeastTtl_l0] at h
      refine tri_exit ?_
      refine tri_seq ?_
      refine tri_region ?_
      refine s_mv (.inl rfl) (by conv => lhs; whnf) rfl rfl rfl ?_
      refine s_mv (.inr rfl) (by conv => lhs; whnf) rfl rfl rfl ?_
      refine rt_nil ?_
      refine tri_ret ?_
      have e0 := (some1 h); subst e0
      exact endY [] [] (rvC (resTmp rfl) rvN) trivial trivial rfl rfl rfl rfl (.free rfl)

/- laws.FnSets -/
def inv_w_FnSets_3 (x4 : List Rec) (x10 : List Rec) (x11 : Int) (j0_0 : Int) (j3_0 : Bool) : St := mkT 116 [(3, .ref (16, 0) 0 x4.length), (7, .ref (25, 100) 0 x10.length), (8, .sc (.int .i64 x11)), (10, .sc (.int .i64 j0_0)), (98, .sc (.bool j3_0))] [((16, 0), some ⟨36, 6, List.map recV x4, false, true⟩), ((25, 100), some ⟨36, 6, List.map recV x10, false, true⟩)]
def inv_w_FnSets_2 (x4 : List Rec) (x6 : List Rec) (x7 : ByteArray) (x8 : Int) (x10 : List Rec) (x11 : Int) (x13 : List Quest) (v1_0 : Int) (v1_1 : Nat) (x16 : List Rec) (j2_0 : Bool) : St := mkT 116 [(3, .ref (16, 0) 0 x4.length), (4, .ref (19, 100) 0 x6.length), (5, .sc (.string x7)), (6, .sc (.int .i64 x8)), (7, .ref (25, 100) 0 x10.length), (8, .sc (.int .i64 x11)), (9, .ref (29, 0) 0 x13.length), (10, .sc (.int .i64 (v1_0 + (x16.length : Int)))), (11, .sc (.int .i64 (v1_1 : Int))), (63, .sc (.bool j2_0))] [((16, 0), some ⟨36, 6, List.map recV x4, false, true⟩), ((19, 100), some ⟨36, 6, List.map recV x6, false, true⟩), ((25, 100), some ⟨36, 6, List.map recV x10, false, true⟩), ((29, 0), some ⟨70, 2, List.map questV x13, false, true⟩)]
def inv_w_FnSets_1 (x4 : List Rec) (x6 : List Rec) (x7 : ByteArray) (x8 : Int) (x10 : List Rec) (x11 : Int) (x13 : List Quest) (v1_0 : Int) (v1_1 : Nat) : St := mkT 116 [(3, .ref (16, 0) 0 x4.length), (4, .ref (19, 100) 0 x6.length), (5, .sc (.string x7)), (6, .sc (.int .i64 x8)), (7, .ref (25, 100) 0 x10.length), (8, .sc (.int .i64 x11)), (9, .ref (29, 0) 0 x13.length), (10, .sc (.int .i64 v1_0)), (11, .sc (.int .i64 (v1_1 : Int)))] [((16, 0), some ⟨36, 6, List.map recV x4, false, true⟩), ((19, 100), some ⟨36, 6, List.map recV x6, false, true⟩), ((25, 100), some ⟨36, 6, List.map recV x10, false, true⟩), ((29, 0), some ⟨70, 2, List.map questV x13, false, true⟩)]
def inv_w_FnSets_0 (x4 : List Rec) (x6 : List Rec) (x7 : ByteArray) (x8 : Int) (x10 : List Rec) (x11 : Int) (x13 : List Quest) (j0_0 : Int) : St := mkT 116 [(3, .ref (16, 0) 0 x4.length), (4, .ref (19, 100) 0 x6.length), (5, .sc (.string x7)), (6, .sc (.int .i64 x8)), (7, .ref (25, 100) 0 x10.length), (8, .sc (.int .i64 x11)), (9, .ref (29, 0) 0 x13.length), (10, .sc (.int .i64 j0_0))] [((16, 0), some ⟨36, 6, List.map recV x4, false, true⟩), ((19, 100), some ⟨36, 6, List.map recV x6, false, true⟩), ((25, 100), some ⟨36, 6, List.map recV x10, false, true⟩), ((29, 0), some ⟨70, 2, List.map questV x13, false, true⟩)]
set_option maxRecDepth 4000 in
set_option maxHeartbeats 800000 in
theorem ww_FnSets (p0 : List Int) (r0 : Bool) (h : w_FnSets p0 = some r0) : Runs Try.prog 13 [.lst 1 (List.map byteV p0)] [] (.sc (.bool r0)) [] := by
  unfold w_FnSets at h
  refine runsR [.tmp 2] Try.func13 rfl rfl rfl rfl ?_
  rw [Try.ntmps13]
  refine tri_seq ?_
  refine tri_region ?_
  refine s_mv (.inr rfl) (v := .sc (.bool false)) rfl rfl rfl rfl ?_
  refine rt_nil ?_
  refine tri_seq ?_
  refine tri_seq ?_
  refine tri_region ?_
  refine s_mv (.inl rfl) (by conv => lhs; whnf) rfl rfl rfl ?_
  refine bnd1_elim h fun x1 q2 h => ?_
  refine s_callN (kb := []) (ns := []) (v := .sc (.bool x1)) rfl rfl cl53 (ww_big p0 x1 q2) rfl (.cons (.free rfl) .nil) trivial memNil .nil memNil rfl trivial memNil rfl rfl rfl rfl rfl rfl ?_
  refine rt_nil ?_
  refine tri_cond rfl (fun c3 => ?_) (fun c3 => ?_)
  · replace h := cond_t h c3
    refine tri_seq ?_
    refine tri_region ?_
    refine s_mv (.inr rfl) (v := .sc (.bool true)) rfl rfl rfl rfl ?_
    refine rt_nil ?_
    refine tri_ret ?_
    have e0 := (some1 h); subst e0
    exact endY [] [] (rvC (resTmp rfl) rvN) trivial trivial rfl rfl rfl rfl (.free rfl)
  · replace h := cond_f h c3
    refine tri_skip ?_
    refine tri_seq ?_
    refine tri_region ?_
    refine s_mv (.inl rfl) (by conv => lhs; whnf) rfl rfl rfl ?_
    refine bnd1_elim h fun x4 q5 h => ?_
    refine s_callN (kb := []) (ns := []) (v := .ref (16, 0) 0 x4.length) rfl rfl cl54 (ws_DrawKeysOf p0 x4 q5) rfl (.cons (.free rfl) .nil) trivial memNil .nil memNil rfl ⟨(allSc_map recV_sc), trivial⟩ memNil rfl (by simp only [V.mat, V.mat1, V.mat0, matL, matT, List.length_map]) rfl rfl rfl rfl ?_
    refine s_mv (.inr rfl) (by conv => lhs; whnf) rfl rfl rfl ?_
    refine rt_nil ?_
    refine tri_seq ?_
    refine tri_region ?_
    refine s_mv (.inl rfl) (by conv => lhs; whnf) rfl rfl rfl ?_
    refine bnd3_elim h fun x6 x7 x8 q9 h => ?_
    refine s_callN (kb := []) (ns := []) (v := .tup [.ref (19, 100) 0 x6.length, .sc (.string x7), .sc (.int .i64 x8)]) rfl rfl cl55 (ws_DrawSetOf p0 x6 x7 x8 q9) rfl (.cons (.free rfl) .nil) trivial memNil .nil memNil rfl ⟨(allSc_map recV_sc), trivial⟩ memNil rfl (by simp only [V.mat, V.mat1, V.mat0, matL, matT, List.length_map]) rfl rfl rfl rfl ?_
    refine s_mv (.inl rfl) (by conv => lhs; whnf) rfl rfl rfl ?_
    refine s_extract rfl rfl rfl rfl rfl rfl ?_
    refine s_extract rfl rfl rfl rfl rfl rfl ?_
    refine s_extract rfl rfl rfl rfl rfl rfl ?_
    refine s_mv (.inr rfl) (by conv => lhs; whnf) rfl rfl rfl ?_
    refine s_mv (.inr rfl) (by conv => lhs; whnf) rfl rfl rfl ?_
    refine s_mv (.inr rfl) (by conv => lhs; whnf) rfl rfl rfl ?_
    refine rt_nil ?_
    refine tri_seq ?_
    refine tri_region ?_
    refine s_mv (.inl rfl) (by conv => lhs; whnf) rfl rfl rfl ?_
    refine bnd2_elim h fun x10 x11 q12 h => ?_
    refine s_callN (kb := []) (ns := []) (v := .tup [.ref (25, 100) 0 x10.length, .sc (.int .i64 x11)]) rfl rfl cl56 (ws_DrawWithTtl p0 x10 x11 q12) rfl (.cons (.free rfl) .nil) trivial memNil .nil memNil rfl ⟨(allSc_map recV_sc), trivial⟩ memNil rfl (by simp only [V.mat, V.mat1, V.mat0, matL, matT, List.length_map]) rfl rfl rfl rfl ?_
    refine s_mv (.inl rfl) (by conv => lhs; whnf) rfl rfl rfl ?_
    refine s_extract rfl rfl rfl rfl rfl rfl ?_
    refine s_extract rfl rfl rfl rfl rfl rfl ?_
    refine s_mv (.inr rfl) (by conv => lhs; whnf) rfl rfl rfl ?_
    refine s_mv (.inr rfl) (by conv => lhs; whnf) rfl rfl rfl ?_
    refine rt_nil ?_
    refine tri_seq ?_
    refine tri_region ?_
    refine s_mv (.inl rfl) (by conv => lhs; whnf) rfl rfl rfl ?_
    refine bnd1_elim h fun x13 q14 h => ?_
    refine s_callN (kb := [(16, 0)]) (ns := []) (v := .ref (29, 0) 0 x13.length) rfl rfl cl49 (wi_KeysOf x4 x13 q14) rfl (.cons (lendL rfl (.head _) rfl recV_free recV_len) .nil) trivial memNil .nil (fun _ _ => List.not_mem_nil) rfl ⟨(allSc_map questV_sc), trivial⟩ memNil rfl (by simp only [V.mat, V.mat1, V.mat0, matL, matT, List.length_map]) rfl rfl rfl rfl ?_
    refine s_mv (.inr rfl) (by conv => lhs; whnf) rfl rfl rfl ?_
    refine rt_nil ?_
    refine tri_seq ?_
    refine tri_region ?_
    refine s_mv (.inr rfl) (v := .sc (.int .i64 0)) rfl rfl rfl rfl ?_
    refine rt_nil ?_
    refine tri_cutI (ι := { p : Int // w_FnSets_j0 x4 x6 x7 x8 x10 x11 x13 p = some r0 }) (fun p => inv_w_FnSets_0 x4 x6 x7 x8 x10 x11 x13 p.1) ?_ ?_
    · skip
      refine tri_seq ?_
      refine tri_region ?_
      refine s_mv (.inr rfl) (v := .sc (.int .i64 0)) rfl rfl rfl rfl ?_
      refine rt_nil ?_
      refine tri_block ?_
      refine tri_ownM (29, 0) rfl (fun hl1 => ?_)
      refine tri_loop (ι := { p : (List Quest) × Int × Nat // x13.drop p.2.2 = p.1 ∧ w_FnSets_l1 x4 x6 x7 x8 x10 x11 x13 p.1 p.2.1 p.2.2 = some r0 }) (fun p => inv_w_FnSets_1 x4 x6 x7 x8 x10 x11 x13 p.1.2.1 p.1.2.2) (fun p => p.1.1.length) ⟨(x13, 0, 0), rfl, h⟩ ?_ ?_
      · skip
        refine entX [((16, 0), ⟨36, 6, List.map recV x4, false, true⟩, some (16, 0)), ((19, 100), ⟨36, 6, List.map recV x6, false, true⟩, some (19, 100)), ((25, 100), ⟨36, 6, List.map recV x10, false, true⟩, some (25, 100)), ((29, 0), ⟨70, 2, List.map questV x13, false, true⟩, some (29, 0))] [] ⟨⟨rfl, _, rfl, rfl, rfl, rfl, id, rowsCv_eq rfl (allFree_map recV_free), rowsZ_map recV_len⟩, ⟨rfl, _, rfl, rfl, rfl, rfl, id, rowsCv_eq rfl (allFree_map recV_free), rowsZ_map recV_len⟩, ⟨rfl, _, rfl, rfl, rfl, rfl, id, rowsCv_eq rfl (allFree_map recV_free), rowsZ_map recV_len⟩, ⟨rfl, _, rfl, rfl, rfl, rfl, id, rowsCv_eq rfl (allFree_map questV_free), rowsZ_map questV_len⟩, trivial⟩ trivial rfl rfl ?_
        exact ⟨(.ref rfl), (.ref rfl), (.free rfl), (.free rfl), (.ref rfl), (.free rfl), (.ref rfl), (.free rfl), (.free rfl), trivial⟩
      · rintro ⟨⟨lrs1, v1_0, v1_1⟩, hd1, h⟩
        replace hd1 : x13.drop v1_1 = lrs1 := hd1
        replace h : w_FnSets_l1 x4 x6 x7 x8 x10 x11 x13 lrs1 v1_0 v1_1 = some r0 := h
        show Tri _ _ _ (inv_w_FnSets_1 x4 x6 x7 x8 x10 x11 x13 v1_0 v1_1)
        refine tri_seq ?_
        refine tri_seq ?_
        refine tri_region ?_
        refine s_mv (.inl rfl) (by conv => lhs; whnf) rfl rfl rfl ?_
        refine s_mv (.inl rfl) (by conv => lhs; whnf) rfl rfl rfl ?_
        refine s_len (m := x13.length) rfl sl58 rfl rfl rfl rfl ?_
        refine s_of (st_lss rfl rfl rfl) rfl rfl rfl rfl ?_
        refine rt_nil ?_
        refine tri_cond rfl (fun c15 => ?_) (fun c15 => ?_)
        · refine drop_elim hd1 c15 fun e1 rs1 he hx1 hn1 => ?_
          subst he
          rw [w_FnSets_l1] at h
          refine tri_skip ?_
          refine tri_seq ?_
          refine tri_block ?_
          refine tri_seq ?_
          refine tri_draw mixed ?_
          refine s_mv (.inl rfl) (by conv => lhs; whnf) rfl rfl rfl ?_
          refine s_mv (.inl rfl) (by conv => lhs; whnf) rfl rfl rfl ?_
          refine s_mv (.inl rfl) (by conv => lhs; whnf) rfl rfl rfl ?_
          refine s_index0 (i := v1_1) rfl rfl rfl rfl sl58 rfl (get_lt hx1) rfl rfl rfl ?_
          refine s_fieldAddr rfl rfl fd70_0 rfl rfl rfl rfl ?_
          refine s_load rfl rfl rfl (rowG hx1) ty9 rfl (.inr rfl) (by conv => lhs; whnf) rfl rfl rfl ?_
          refine s_mv (.inl rfl) (by conv => lhs; whnf) rfl rfl rfl ?_
          refine s_mv (.inl rfl) (by conv => lhs; whnf) rfl rfl rfl ?_
          refine s_index0 (i := v1_1) rfl rfl rfl rfl sl58 rfl (get_lt hx1) rfl rfl rfl ?_
          refine s_fieldAddr rfl rfl fd70_1 rfl rfl rfl rfl ?_
          refine s_load rfl rfl rfl (rowG hx1) ty3 rfl (.inr rfl) (by conv => lhs; whnf) rfl rfl rfl ?_
          refine bnd1_elim h fun x16 q17 h => ?_
          refine s_callN (kb := [(16, 0)]) (ns := []) (v := .ref (47, 0) 0 x16.length) rfl rfl cl33 (wi_SetOf x4 e1.name e1.ty x16 q17) rfl (.cons (lendL rfl (.head _) rfl recV_free recV_len) (.cons (.free rfl) (.cons (.free rfl) .nil))) trivial memNil .nil (fun _ _ => List.not_mem_nil) rfl ⟨(allSc_map recV_sc), trivial⟩ memNil rfl (by simp only [V.mat, V.mat1, V.mat0, matL, matT, List.length_map]) rfl rfl rfl rfl ?_
          refine s_mv (.inr rfl) (by conv => lhs; whnf) rfl rfl rfl ?_
          refine rt_nil ⟨by kernel_rfl, ?_⟩
          refine tri_seq ?_
          refine tri_region ?_
          refine s_mv (.inl rfl) (by conv => lhs; whnf) rfl rfl rfl ?_
          refine s_mv (.inl rfl) (by conv => lhs; whnf) rfl rfl rfl ?_
          refine s_len (m := x16.length) rfl sl27 rfl rfl rfl rfl ?_
          refine grd_elim h fun g18 h => ?_
          refine s_addI rfl rfl rfl rfl g18 rfl rfl rfl ?_
          refine s_mv (.inr rfl) (by conv => lhs; whnf) rfl rfl rfl ?_
          refine rt_nil ?_
          refine tri_cutI (ι := { p : Bool // w_FnSets_j2 v1_0 v1_1 x16 (w_FnSets_l1 x4 x6 x7 x8 x10 x11 x13 rs1) p = some r0 }) (fun p => inv_w_FnSets_2 x4 x6 x7 x8 x10 x11 x13 v1_0 v1_1 x16 p.1) ?_ ?_
          · skip
            refine tri_draw mixed ?_
            refine s_mv (.inl rfl) (by conv => lhs; whnf) rfl rfl rfl ?_
            refine s_len (m := x16.length) rfl sl27 rfl rfl rfl rfl ?_
            refine s_of (st_eqI rfl rfl rfl) rfl rfl rfl rfl ?_
            refine s_mv (.inl rfl) (by conv => lhs; whnf) rfl rfl rfl ?_
            refine s_split (t := 55) rfl (fun b19 => ?_) (fun b19 => ?_)
            · replace h := cond_t h b19
              refine s_skip rfl rfl rfl ?_
              refine s_skip rfl rfl rfl ?_
              refine s_skip rfl rfl rfl ?_
              refine s_skip rfl rfl rfl ?_
              refine s_skip rfl rfl rfl ?_
              refine s_skip rfl rfl rfl ?_
              refine s_skip rfl rfl rfl ?_
              refine s_pickT rfl rfl (v := .sc (.bool true)) rfl rfl rfl rfl ?_
              refine rt_nil ⟨by kernel_rfl, ?_⟩
              refine Exists.intro ⟨true, h⟩ ?_
              refine entX [((16, 0), ⟨36, 6, List.map recV x4, false, true⟩, some (16, 0)), ((19, 100), ⟨36, 6, List.map recV x6, false, true⟩, some (19, 100)), ((25, 100), ⟨36, 6, List.map recV x10, false, true⟩, some (25, 100)), ((29, 0), ⟨70, 2, List.map questV x13, false, true⟩, some (29, 0))] [] ⟨⟨rfl, _, rfl, rfl, rfl, rfl, id, rowsCv_eq rfl (allFree_map recV_free), rowsZ_map recV_len⟩, ⟨rfl, _, rfl, rfl, rfl, rfl, id, rowsCv_eq rfl (allFree_map recV_free), rowsZ_map recV_len⟩, ⟨rfl, _, rfl, rfl, rfl, rfl, id, rowsCv_eq rfl (allFree_map recV_free), rowsZ_map recV_len⟩, ⟨rfl, _, rfl, rfl, rfl, rfl, id, rowsCv_eq rfl (allFree_map questV_free), rowsZ_map questV_len⟩, trivial⟩ trivial rfl rfl ?_
              exact ⟨(.ref rfl), (.ref rfl), (.free rfl), (.free rfl), (.ref rfl), (.free rfl), (.ref rfl), (.free rfl), (.free rfl), (.free rfl), trivial⟩
            · replace h := cond_f h b19
              refine s_mv (.inl rfl) (by conv => lhs; whnf) rfl rfl rfl ?_
              refine bnd1_elim h fun x20 q21 h => ?_
              refine s_callN (kb := [(47, 0)]) (ns := []) (v := .sc (.int .i64 x20)) rfl rfl cl20 (wi_LeastTtl x16 x20 q21) rfl (.cons (lendL rfl (.head _) rfl recV_free recV_len) .nil) trivial memNil .nil (fun _ _ => List.not_mem_nil) rfl trivial memNil rfl rfl rfl rfl rfl rfl ?_
              refine s_mv (.inl rfl) (by conv => lhs; whnf) rfl rfl rfl ?_
              refine bnd1_elim h fun x22 q23 h => ?_
              have q23a := (idx_some q23).1; have q23b := (idx_some q23).2
              refine s_indexZ rfl rfl rfl rfl sl27 rfl q23a (get_lt q23b) rfl rfl rfl ?_
              refine s_fieldAddr rfl rfl fd36_2 rfl rfl rfl rfl ?_
              refine s_load rfl rfl rfl (rowG q23b) ty3 rfl (.inr rfl) (by conv => lhs; whnf) rfl rfl rfl ?_
              refine s_of (st_gtr rfl rfl rfl) rfl rfl rfl rfl ?_
              refine s_pickF rfl rfl (by conv => lhs; whnf) rfl rfl rfl ?_
              refine rt_nil ⟨by kernel_rfl, ?_⟩
              refine Exists.intro ⟨decide (x22.ttl < x20), h⟩ ?_
              refine entX [((16, 0), ⟨36, 6, List.map recV x4, false, true⟩, some (16, 0)), ((19, 100), ⟨36, 6, List.map recV x6, false, true⟩, some (19, 100)), ((25, 100), ⟨36, 6, List.map recV x10, false, true⟩, some (25, 100)), ((29, 0), ⟨70, 2, List.map questV x13, false, true⟩, some (29, 0))] [] ⟨⟨rfl, _, rfl, rfl, rfl, rfl, id, rowsCv_eq rfl (allFree_map recV_free), rowsZ_map recV_len⟩, ⟨rfl, _, rfl, rfl, rfl, rfl, id, rowsCv_eq rfl (allFree_map recV_free), rowsZ_map recV_len⟩, ⟨rfl, _, rfl, rfl, rfl, rfl, id, rowsCv_eq rfl (allFree_map recV_free), rowsZ_map recV_len⟩, ⟨rfl, _, rfl, rfl, rfl, rfl, id, rowsCv_eq rfl (allFree_map questV_free), rowsZ_map questV_len⟩, trivial⟩ trivial rfl rfl ?_
              exact ⟨(.ref rfl), (.ref rfl), (.free rfl), (.free rfl), (.ref rfl), (.free rfl), (.ref rfl), (.free rfl), (.free rfl), (.free rfl), trivial⟩
          · rintro ⟨j2_0, h⟩
            replace h : w_FnSets_j2 v1_0 v1_1 x16 (w_FnSets_l1 x4 x6 x7 x8 x10 x11 x13 rs1) j2_0 = some r0 := h
            unfold w_FnSets_j2 at h
            show Tri _ _ _ (inv_w_FnSets_2 x4 x6 x7 x8 x10 x11 x13 v1_0 v1_1 x16 j2_0)
            refine tri_cond rfl (fun c19 => ?_) (fun c19 => ?_)
            · replace h := cond_t h c19
              refine tri_seq ?_
              refine tri_region ?_
              refine s_mv (.inr rfl) (v := .sc (.bool false)) rfl rfl rfl rfl ?_
              refine rt_nil ?_
              refine tri_ret ?_
              have e0 := (some1 h); subst e0
              exact endY [] [] (rvC (resTmp rfl) rvN) trivial trivial rfl rfl rfl rfl (.free rfl)
            · replace h := cond_f h c19
              refine tri_skip ?_
              refine tri_region ?_
              refine s_mv (.inl rfl) (by conv => lhs; whnf) rfl rfl rfl ?_
              refine s_inc (a := v1_1) (b := 1) rfl rfl rfl rfl (by have := get_lt hx1; have := hl1; omega) rfl rfl rfl ?_
              refine s_mv (.inr rfl) (by conv => lhs; whnf) rfl rfl rfl ?_
              refine rt_nil ?_
              refine Exists.intro ⟨(rs1, v1_0 + (x16.length : Int), (v1_1 + 1)), hn1, h⟩ (And.intro (Nat.lt_succ_self _) ?_)
              refine entX [((16, 0), ⟨36, 6, List.map recV x4, false, true⟩, some (16, 0)), ((19, 100), ⟨36, 6, List.map recV x6, false, true⟩, some (19, 100)), ((25, 100), ⟨36, 6, List.map recV x10, false, true⟩, some (25, 100)), ((29, 0), ⟨70, 2, List.map questV x13, false, true⟩, some (29, 0))] [] ⟨⟨rfl, _, rfl, rfl, rfl, rfl, id, rowsCv_eq rfl (allFree_map recV_free), rowsZ_map recV_len⟩, ⟨rfl, _, rfl, rfl, rfl, rfl, id, rowsCv_eq rfl (allFree_map recV_free), rowsZ_map recV_len⟩, ⟨rfl, _, rfl, rfl, rfl, rfl, id, rowsCv_eq rfl (allFree_map recV_free), rowsZ_map recV_len⟩, ⟨rfl, _, rfl, rfl, rfl, rfl, id, rowsCv_eq rfl (allFree_map questV_free), rowsZ_map questV_len⟩, trivial⟩ trivial rfl rfl ?_
              exact ⟨(.ref rfl), (.ref rfl), (.free rfl), (.free rfl), (.ref rfl), (.free rfl), (.ref rfl), (.free rfl), (.free rfl), trivial⟩
        · have he := drop_f hd1 c15; subst he
          rw [w_FnSets_l1] at h
          refine tri_exit ?_
          refine Exists.intro ⟨v1_0, h⟩ ?_
          refine entX [((16, 0), ⟨36, 6, List.map recV x4, false, true⟩, some (16, 0)), ((19, 100), ⟨36, 6, List.map recV x6, false, true⟩, some (19, 100)), ((25, 100), ⟨36, 6, List.map recV x10, false, true⟩, some (25, 100)), ((29, 0), ⟨70, 2, List.map questV x13, false, true⟩, some (29, 0))] [] ⟨⟨rfl, _, rfl, rfl, rfl, rfl, id, rowsCv_eq rfl (allFree_map recV_free), rowsZ_map recV_len⟩, ⟨rfl, _, rfl, rfl, rfl, rfl, id, rowsCv_eq rfl (allFree_map recV_free), rowsZ_map recV_len⟩, ⟨rfl, _, rfl, rfl, rfl, rfl, id, rowsCv_eq rfl (allFree_map recV_free), rowsZ_map recV_len⟩, ⟨rfl, _, rfl, rfl, rfl, rfl, id, rowsCv_eq rfl (allFree_map questV_free), rowsZ_map questV_len⟩, trivial⟩ trivial rfl rfl ?_
          exact ⟨(.ref rfl), (.ref rfl), (.free rfl), (.free rfl), (.ref rfl), (.free rfl), (.ref rfl), (.free rfl), trivial⟩
    · rintro ⟨j0_0, h⟩
      replace h : w_FnSets_j0 x4 x6 x7 x8 x10 x11 x13 j0_0 = some r0 := h
      unfold w_FnSets_j0 at h
      show Tri _ _ _ (inv_w_FnSets_0 x4 x6 x7 x8 x10 x11 x13 j0_0)
      refine tri_seq ?_
      refine tri_cutI (ι := { p : Bool // w_FnSets_j3 x4 x10 x11 j0_0 p = some r0 }) (fun p => inv_w_FnSets_3 x4 x10 x11 j0_0 p.1) ?_ ?_
      · skip
        refine tri_region ?_
        refine s_mv (.inl rfl) (by conv => lhs; whnf) rfl rfl rfl ?_
        refine s_len (m := x13.length) rfl sl58 rfl rfl rfl rfl ?_
        refine s_mv (.inl rfl) (by conv => lhs; whnf) rfl rfl rfl ?_
        refine bnd1_elim h fun x15 q16 h => ?_
        refine s_callN (kb := [(16, 0)]) (ns := []) (v := .ref (67, 0) 0 x15.length) rfl rfl cl48 (ws_KeysOf x4 x15 q16) rfl (.cons (lendL rfl (.head _) rfl recV_free recV_len) .nil) trivial memNil .nil (fun _ _ => List.not_mem_nil) rfl ⟨(allSc_map questV_sc), trivial⟩ memNil rfl (by simp only [V.mat, V.mat1, V.mat0, matL, matT, List.length_map]) rfl rfl rfl rfl ?_
        refine s_len (m := x15.length) rfl sl58 rfl rfl rfl rfl ?_
        refine s_of (st_neI rfl rfl rfl) rfl rfl rfl rfl ?_
        refine s_mv (.inl rfl) (by conv => lhs; whnf) rfl rfl rfl ?_
        refine s_split (t := 70) rfl (fun b17 => ?_) (fun b17 => ?_)
        · replace h := cond_t h b17
          refine s_skip rfl rfl rfl ?_
          refine s_skip rfl rfl rfl ?_
          refine s_skip rfl rfl rfl ?_
          refine s_skip rfl rfl rfl ?_
          refine s_skip rfl rfl rfl ?_
          refine s_skip rfl rfl rfl ?_
          refine s_skip rfl rfl rfl ?_
          refine s_skip rfl rfl rfl ?_
          refine s_skip rfl rfl rfl ?_
          refine s_skip rfl rfl rfl ?_
          refine s_pickT rfl rfl (v := .sc (.bool true)) rfl rfl rfl rfl ?_
          refine s_mv (.inl rfl) (by conv => lhs; whnf) rfl rfl rfl ?_
          refine s_skip rfl rfl rfl ?_
          refine s_skip rfl rfl rfl ?_
          refine s_skip rfl rfl rfl ?_
          refine s_skip rfl rfl rfl ?_
          refine s_skip rfl rfl rfl ?_
          refine s_skip rfl rfl rfl ?_
          refine s_skip rfl rfl rfl ?_
          refine s_skip rfl rfl rfl ?_
          refine s_pickT rfl rfl (v := .sc (.bool true)) rfl rfl rfl rfl ?_
          refine s_mv (.inl rfl) (by conv => lhs; whnf) rfl rfl rfl ?_
          refine s_skip rfl rfl rfl ?_
          refine s_skip rfl rfl rfl ?_
          refine s_skip rfl rfl rfl ?_
          refine s_skip rfl rfl rfl ?_
          refine s_skip rfl rfl rfl ?_
          refine s_pickT rfl rfl (v := .sc (.bool true)) rfl rfl rfl rfl ?_
          refine rt_nil ?_
          refine Exists.intro ⟨true, h⟩ ?_
          refine entX [((16, 0), ⟨36, 6, List.map recV x4, false, true⟩, some (16, 0)), ((25, 100), ⟨36, 6, List.map recV x10, false, true⟩, some (25, 100))] [] ⟨⟨rfl, _, rfl, rfl, rfl, rfl, id, rowsCv_eq rfl (allFree_map recV_free), rowsZ_map recV_len⟩, ⟨rfl, _, rfl, rfl, rfl, rfl, id, rowsCv_eq rfl (allFree_map recV_free), rowsZ_map recV_len⟩, trivial⟩ trivial rfl rfl ?_
          exact ⟨(.ref rfl), (.ref rfl), (.free rfl), (.free rfl), (.free rfl), trivial⟩
        · replace h := cond_f h b17
          refine s_mv (.inl rfl) (by conv => lhs; whnf) rfl rfl rfl ?_
          refine s_mv (.inl rfl) (by conv => lhs; whnf) rfl rfl rfl ?_
          refine s_mv (.inl rfl) (by conv => lhs; whnf) rfl rfl rfl ?_
          refine bnd1_elim h fun x18 q19 h => ?_
          refine s_callN (kb := [(19, 100)]) (ns := []) (v := .ref (74, 0) 0 x18.length) rfl rfl cl33 (wi_SetOf x6 x7 x8 x18 q19) rfl (.cons (lendL rfl (.head _) rfl recV_free recV_len) (.cons (.free rfl) (.cons (.free rfl) .nil))) trivial memNil .nil (fun _ _ => List.not_mem_nil) rfl ⟨(allSc_map recV_sc), trivial⟩ memNil rfl (by simp only [V.mat, V.mat1, V.mat0, matL, matT, List.length_map]) rfl rfl rfl rfl ?_
          refine s_mv (.inl rfl) (by conv => lhs; whnf) rfl rfl rfl ?_
          refine s_mv (.inl rfl) (by conv => lhs; whnf) rfl rfl rfl ?_
          refine s_mv (.inl rfl) (by conv => lhs; whnf) rfl rfl rfl ?_
          refine bnd1_elim h fun x20 q21 h => ?_
          refine s_callN (kb := [(19, 100)]) (ns := []) (v := .ref (78, 0) 0 x20.length) rfl rfl cl32 (ws_SetOf x6 x7 x8 x20 q21) rfl (.cons (lendL rfl (.head _) rfl recV_free recV_len) (.cons (.free rfl) (.cons (.free rfl) .nil))) trivial memNil .nil (fun _ _ => List.not_mem_nil) rfl ⟨(allSc_map recV_sc), trivial⟩ memNil rfl (by simp only [V.mat, V.mat1, V.mat0, matL, matT, List.length_map]) rfl rfl rfl rfl ?_
          refine bnd1_elim h fun x22 q23 h => ?_
          refine s_callN (kb := [(74, 0), (78, 0)]) (ns := []) (v := .sc (.bool x22)) rfl rfl cl57 (ww_sameRecs x18 x20 x22 q23) rfl (.cons (lendL rfl (.head _) rfl recV_free recV_len) (.cons (lendL rfl (.tail _ (.head _)) rfl recV_free recV_len) .nil)) trivial memNil .nil (fun _ _ => List.not_mem_nil) rfl trivial memNil rfl rfl rfl rfl rfl rfl ?_
          refine s_of (st_not rfl rfl) rfl rfl rfl rfl ?_
          refine s_pickF rfl rfl (by conv => lhs; whnf) rfl rfl rfl ?_
          refine s_mv (.inl rfl) (by conv => lhs; whnf) rfl rfl rfl ?_
          refine s_split (t := 82) rfl (fun b24 => ?_) (fun b24 => ?_)
          · replace h := cond_t h b24
            refine s_skip rfl rfl rfl ?_
            refine s_skip rfl rfl rfl ?_
            refine s_skip rfl rfl rfl ?_
            refine s_skip rfl rfl rfl ?_
            refine s_skip rfl rfl rfl ?_
            refine s_skip rfl rfl rfl ?_
            refine s_skip rfl rfl rfl ?_
            refine s_skip rfl rfl rfl ?_
            refine s_pickT rfl rfl (v := .sc (.bool true)) rfl rfl rfl rfl ?_
            refine s_mv (.inl rfl) (by conv => lhs; whnf) rfl rfl rfl ?_
            refine s_skip rfl rfl rfl ?_
            refine s_skip rfl rfl rfl ?_
            refine s_skip rfl rfl rfl ?_
            refine s_skip rfl rfl rfl ?_
            refine s_skip rfl rfl rfl ?_
            refine s_pickT rfl rfl (v := .sc (.bool true)) rfl rfl rfl rfl ?_
            refine rt_nil ?_
            refine Exists.intro ⟨true, h⟩ ?_
            refine entX [((16, 0), ⟨36, 6, List.map recV x4, false, true⟩, some (16, 0)), ((25, 100), ⟨36, 6, List.map recV x10, false, true⟩, some (25, 100))] [] ⟨⟨rfl, _, rfl, rfl, rfl, rfl, id, rowsCv_eq rfl (allFree_map recV_free), rowsZ_map recV_len⟩, ⟨rfl, _, rfl, rfl, rfl, rfl, id, rowsCv_eq rfl (allFree_map recV_free), rowsZ_map recV_len⟩, trivial⟩ trivial rfl rfl ?_
            exact ⟨(.ref rfl), (.ref rfl), (.free rfl), (.free rfl), (.free rfl), trivial⟩
          · replace h := cond_f h b24
            refine s_mv (.inl rfl) (by conv => lhs; whnf) rfl rfl rfl ?_
            refine s_mv (.inl rfl) (by conv => lhs; whnf) rfl rfl rfl ?_
            refine bnd1_elim h fun x25 q26 h => ?_
            refine s_callN (kb := [(25, 100)]) (ns := []) (v := .ref (85, 0) 0 x25.length) rfl rfl cl37 (wi_WithTtl x10 x11 x25 q26) rfl (.cons (lendL rfl (.head _) rfl recV_free recV_len) (.cons (.free rfl) .nil)) trivial memNil .nil (fun _ _ => List.not_mem_nil) rfl ⟨(allSc_map recV_sc), trivial⟩ memNil rfl (by simp only [V.mat, V.mat1, V.mat0, matL, matT, List.length_map]) rfl rfl rfl rfl ?_
            refine s_mv (.inl rfl) (by conv => lhs; whnf) rfl rfl rfl ?_
            refine s_mv (.inl rfl) (by conv => lhs; whnf) rfl rfl rfl ?_
            refine bnd1_elim h fun x27 q28 h => ?_
            refine s_callN (kb := [(25, 100)]) (ns := []) (v := .ref (88, 0) 0 x27.length) rfl rfl cl36 (ws_WithTtl x10 x11 x27 q28) rfl (.cons (lendL rfl (.head _) rfl recV_free recV_len) (.cons (.free rfl) .nil)) trivial memNil .nil (fun _ _ => List.not_mem_nil) rfl ⟨(allSc_map recV_sc), trivial⟩ memNil rfl (by simp only [V.mat, V.mat1, V.mat0, matL, matT, List.length_map]) rfl rfl rfl rfl ?_
            refine bnd1_elim h fun x29 q30 h => ?_
            refine s_callN (kb := [(85, 0), (88, 0)]) (ns := []) (v := .sc (.bool x29)) rfl rfl cl57 (ww_sameRecs x25 x27 x29 q30) rfl (.cons (lendL rfl (.head _) rfl recV_free recV_len) (.cons (lendL rfl (.tail _ (.head _)) rfl recV_free recV_len) .nil)) trivial memNil .nil (fun _ _ => List.not_mem_nil) rfl trivial memNil rfl rfl rfl rfl rfl rfl ?_
            refine s_of (st_not rfl rfl) rfl rfl rfl rfl ?_
            refine s_pickF rfl rfl (by conv => lhs; whnf) rfl rfl rfl ?_
            refine s_mv (.inl rfl) (by conv => lhs; whnf) rfl rfl rfl ?_
            refine s_split (t := 92) rfl (fun b31 => ?_) (fun b31 => ?_)
            · replace h := cond_t h b31
              refine s_skip rfl rfl rfl ?_
              refine s_skip rfl rfl rfl ?_
              refine s_skip rfl rfl rfl ?_
              refine s_skip rfl rfl rfl ?_
              refine s_skip rfl rfl rfl ?_
              refine s_pickT rfl rfl (v := .sc (.bool true)) rfl rfl rfl rfl ?_
              refine rt_nil ?_
              refine Exists.intro ⟨true, h⟩ ?_
              refine entX [((16, 0), ⟨36, 6, List.map recV x4, false, true⟩, some (16, 0)), ((25, 100), ⟨36, 6, List.map recV x10, false, true⟩, some (25, 100))] [] ⟨⟨rfl, _, rfl, rfl, rfl, rfl, id, rowsCv_eq rfl (allFree_map recV_free), rowsZ_map recV_len⟩, ⟨rfl, _, rfl, rfl, rfl, rfl, id, rowsCv_eq rfl (allFree_map recV_free), rowsZ_map recV_len⟩, trivial⟩ trivial rfl rfl ?_
              exact ⟨(.ref rfl), (.ref rfl), (.free rfl), (.free rfl), (.free rfl), trivial⟩
            · replace h := cond_f h b31
              refine s_mv (.inl rfl) (by conv => lhs; whnf) rfl rfl rfl ?_
              refine bnd1_elim h fun x32 q33 h => ?_
              refine s_callN (kb := [(16, 0)]) (ns := []) (v := .sc (.int .i64 x32)) rfl rfl cl20 (wi_LeastTtl x4 x32 q33) rfl (.cons (lendL rfl (.head _) rfl recV_free recV_len) .nil) trivial memNil .nil (fun _ _ => List.not_mem_nil) rfl trivial memNil rfl rfl rfl rfl rfl rfl ?_
              refine s_mv (.inl rfl) (by conv => lhs; whnf) rfl rfl rfl ?_
              refine bnd1_elim h fun x34 q35 h => ?_
              refine s_callN (kb := [(16, 0)]) (ns := []) (v := .sc (.int .i64 x34)) rfl rfl cl18 (ws_LeastTtl x4 x34 q35) rfl (.cons (lendL rfl (.head _) rfl recV_free recV_len) .nil) trivial memNil .nil (fun _ _ => List.not_mem_nil) rfl trivial memNil rfl rfl rfl rfl rfl rfl ?_
              refine s_of (st_neI rfl rfl rfl) rfl rfl rfl rfl ?_
              refine s_pickF rfl rfl (by conv => lhs; whnf) rfl rfl rfl ?_
              refine rt_nil ?_
              refine Exists.intro ⟨!decide (x32 = x34), h⟩ ?_
              refine entX [((16, 0), ⟨36, 6, List.map recV x4, false, true⟩, some (16, 0)), ((25, 100), ⟨36, 6, List.map recV x10, false, true⟩, some (25, 100))] [] ⟨⟨rfl, _, rfl, rfl, rfl, rfl, id, rowsCv_eq rfl (allFree_map recV_free), rowsZ_map recV_len⟩, ⟨rfl, _, rfl, rfl, rfl, rfl, id, rowsCv_eq rfl (allFree_map recV_free), rowsZ_map recV_len⟩, trivial⟩ trivial rfl rfl ?_
              exact ⟨(.ref rfl), (.ref rfl), (.free rfl), (.free rfl), (.free rfl), trivial⟩
      · rintro ⟨j3_0, h⟩
        replace h : w_FnSets_j3 x4 x10 x11 j0_0 j3_0 = some r0 := h
        unfold w_FnSets_j3 at h
        show Tri _ _ _ (inv_w_FnSets_3 x4 x10 x11 j0_0 j3_0)
        refine tri_cond rfl (fun c15 => ?_) (fun c15 => ?_)
        · replace h := cond_t h c15
          refine tri_seq ?_
          refine tri_region ?_
          refine s_mv (.inr rfl) (v := .sc (.bool false)) rfl rfl rfl rfl ?_
          refine rt_nil ?_
          refine tri_ret ?_
          have e0 := (some1 h); subst e0
          exact endY [] [] (rvC (resTmp rfl) rvN) trivial trivial rfl rfl rfl rfl (.free rfl)
        · replace h := cond_f h c15
          refine tri_skip ?_
          refine tri_seq ?_
          refine tri_region ?_
          refine s_mv (.inl rfl) (by conv => lhs; whnf) rfl rfl rfl ?_
          refine s_mv (.inl rfl) (by conv => lhs; whnf) rfl rfl rfl ?_
          refine s_len (m := x4.length) rfl sl27 rfl rfl rfl rfl ?_
          refine s_of (st_eqI rfl rfl rfl) rfl rfl rfl rfl ?_
          refine s_mv (.inl rfl) (by conv => lhs; whnf) rfl rfl rfl ?_
          refine s_split (t := 103) rfl (fun b16 => ?_) (fun b16 => ?_)
          · replace h := cond_t h b16
            refine s_mv (.inl rfl) (by conv => lhs; whnf) rfl rfl rfl ?_
            refine s_len (m := x10.length) rfl sl27 rfl rfl rfl rfl ?_
            refine s_of (st_eqI rfl rfl rfl) rfl rfl rfl rfl ?_
            refine s_mv (.inl rfl) (by conv => lhs; whnf) rfl rfl rfl ?_
            refine s_split (t := 107) rfl (fun b17 => ?_) (fun b17 => ?_)
            · replace h := cond_t h b17
              refine s_skip rfl rfl rfl ?_
              refine s_skip rfl rfl rfl ?_
              refine s_skip rfl rfl rfl ?_
              refine s_skip rfl rfl rfl ?_
              refine s_skip rfl rfl rfl ?_
              refine s_skip rfl rfl rfl ?_
              refine s_pickT rfl rfl (v := .sc (.bool true)) rfl rfl rfl rfl ?_
              refine s_pickT rfl rfl (by conv => lhs; whnf) rfl rfl rfl ?_
              refine s_mv (.inr rfl) (by conv => lhs; whnf) rfl rfl rfl ?_
              refine rt_nil ?_
              refine tri_ret ?_
              have e0 := (some1 h); subst e0
              exact endY [] [] (rvC (resTmp rfl) rvN) trivial trivial rfl rfl rfl rfl (.free rfl)
            · replace h := cond_f h b17
              refine s_mv (.inl rfl) (by conv => lhs; whnf) rfl rfl rfl ?_
              refine s_mv (.inl rfl) (by conv => lhs; whnf) rfl rfl rfl ?_
              refine bnd1_elim h fun x18 q19 h => ?_
              refine s_callN (kb := [(25, 100)]) (ns := []) (v := .ref (110, 0) 0 x18.length) rfl rfl cl37 (wi_WithTtl x10 x11 x18 q19) rfl (.cons (lendL rfl (.head _) rfl recV_free recV_len) (.cons (.free rfl) .nil)) trivial memNil .nil (fun _ _ => List.not_mem_nil) rfl ⟨(allSc_map recV_sc), trivial⟩ memNil rfl (by simp only [V.mat, V.mat1, V.mat0, matL, matT, List.length_map]) rfl rfl rfl rfl ?_
              refine bnd1_elim h fun x20 q21 h => ?_
              refine s_callN (kb := [(110, 0)]) (ns := []) (v := .sc (.int .i64 x20)) rfl rfl cl20 (wi_LeastTtl x18 x20 q21) rfl (.cons (lendL rfl (.head _) rfl recV_free recV_len) .nil) trivial memNil .nil (fun _ _ => List.not_mem_nil) rfl trivial memNil rfl rfl rfl rfl rfl rfl ?_
              refine s_mv (.inl rfl) (by conv => lhs; whnf) rfl rfl rfl ?_
              refine s_of (st_eqI rfl rfl rfl) rfl rfl rfl rfl ?_
              refine s_pickF rfl rfl (by conv => lhs; whnf) rfl rfl rfl ?_
              refine s_pickT rfl rfl (by conv => lhs; whnf) rfl rfl rfl ?_
              refine s_mv (.inr rfl) (by conv => lhs; whnf) rfl rfl rfl ?_
              refine rt_nil ?_
              refine tri_ret ?_
              have e0 := (some1 h); subst e0
              exact endY [] [] (rvC (resTmp rfl) rvN) trivial trivial rfl rfl rfl rfl (.free rfl)
          · replace h := cond_f h b16
            refine s_skip rfl rfl rfl ?_
            refine s_skip rfl rfl rfl ?_
            refine s_skip rfl rfl rfl ?_
            refine s_skip rfl rfl rfl ?_
            refine s_skip rfl rfl rfl ?_
            refine s_skip rfl rfl rfl ?_
            refine s_skip rfl rfl rfl ?_
            refine s_skip rfl rfl rfl ?_
            refine s_skip rfl rfl rfl ?_
            refine s_skip rfl rfl rfl ?_
            refine s_skip rfl rfl rfl ?_
            refine s_pickF rfl rfl (v := .sc (.bool false)) rfl rfl rfl rfl ?_
            refine s_mv (.inr rfl) (by conv => lhs; whnf) rfl rfl rfl ?_
            refine rt_nil ?_
            refine tri_ret ?_
            have e0 := (some1 h); subst e0
            exact endY [] [] (rvC (resTmp rfl) rvN) trivial trivial rfl rfl rfl rfl (.free rfl)

end Go.Abs.M
