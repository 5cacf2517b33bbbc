/- Walks of the functions that the law of FnKeeps reaches: what each of them computes, where its pure function does not fail. -/
import Derived.Test.YtcdpmfnjajjlkaaDoorFnsFnKeeps
import Derived.Test.YtcdpmfnjajjlkaaDoorChecked
namespace Go.Abs.M
open Go Go.Abs Go.Proofs
theorem cl10 : callable Tryd.prog 10 = true := by kernel_rfl
theorem cl101 : callable Tryd.prog 101 = true := by kernel_rfl
theorem cl102 : callable Tryd.prog 102 = true := by kernel_rfl
theorem cl103 : callable Tryd.prog 103 = true := by kernel_rfl
theorem cl104 : callable Tryd.prog 104 = true := by kernel_rfl
theorem cl106 : callable Tryd.prog 106 = true := by kernel_rfl
theorem cl107 : callable Tryd.prog 107 = true := by kernel_rfl
theorem cl113 : callable Tryd.prog 113 = true := by kernel_rfl
theorem cl114 : callable Tryd.prog 114 = true := by kernel_rfl
theorem cl122 : callable Tryd.prog 122 = true := by kernel_rfl
theorem cl31 : callable Tryd.prog 31 = true := by kernel_rfl
theorem cl34 : callable Tryd.prog 34 = true := by kernel_rfl
theorem cl41 : callable Tryd.prog 41 = true := by kernel_rfl
theorem cl42 : callable Tryd.prog 42 = true := by kernel_rfl
theorem cl43 : callable Tryd.prog 43 = true := by kernel_rfl
theorem cl44 : callable Tryd.prog 44 = true := by kernel_rfl
theorem cl54 : callable Tryd.prog 54 = true := by kernel_rfl
theorem cl61 : callable Tryd.prog 61 = true := by kernel_rfl
theorem cl65 : callable Tryd.prog 65 = true := by kernel_rfl
theorem cl66 : callable Tryd.prog 66 = true := by kernel_rfl
theorem cl71 : callable Tryd.prog 71 = true := by kernel_rfl
theorem cl79 : callable Tryd.prog 79 = true := by kernel_rfl
theorem cl80 : callable Tryd.prog 80 = true := by kernel_rfl
theorem cl86 : callable Tryd.prog 86 = true := by kernel_rfl
theorem cl87 : callable Tryd.prog 87 = true := by kernel_rfl
theorem cl88 : callable Tryd.prog 88 = true := by kernel_rfl
theorem cl89 : callable Tryd.prog 89 = true := by kernel_rfl
theorem fd115_0 : fldTy Tryd.prog 115 0 = some (0, 0 + 1, false) := by kernel_rfl
theorem fd115_1 : fldTy Tryd.prog 115 1 = some (1, 0 + 1, false) := by kernel_rfl
theorem fd115_2 : fldTy Tryd.prog 115 2 = some (2, 0 + 1, false) := by kernel_rfl
theorem fd29_0 : fldTy Tryd.prog 29 0 = some (0, 0 + 1, false) := by kernel_rfl
theorem fd29_1 : fldTy Tryd.prog 29 1 = some (1, 0 + 1, false) := by kernel_rfl
theorem fd32_0 : fldTy Tryd.prog 32 0 = some (0, 1 + 1, true) := by kernel_rfl
theorem fd32_1 : fldTy Tryd.prog 32 1 = some (2, 0 + 1, false) := by kernel_rfl
theorem fd32_2 : fldTy Tryd.prog 32 2 = some (3, 0 + 1, false) := by kernel_rfl
theorem fd32_3 : fldTy Tryd.prog 32 3 = some (4, 0 + 1, false) := by kernel_rfl
theorem fd32_4 : fldTy Tryd.prog 32 4 = some (5, 0 + 1, false) := by kernel_rfl
theorem fd43_0 : fldTy Tryd.prog 43 0 = some (0, 0 + 1, false) := by kernel_rfl
theorem fd43_1 : fldTy Tryd.prog 43 1 = some (1, 0 + 1, false) := by kernel_rfl
theorem fd60_0 : fldTy Tryd.prog 60 0 = some (0, 0 + 1, false) := by kernel_rfl
theorem fd60_1 : fldTy Tryd.prog 60 1 = some (1, 0 + 1, false) := by kernel_rfl
theorem fd60_2 : fldTy Tryd.prog 60 2 = some (2, 0 + 1, false) := by kernel_rfl
theorem fd60_3 : fldTy Tryd.prog 60 3 = some (3, 0 + 1, false) := by kernel_rfl
theorem fd60_4 : fldTy Tryd.prog 60 4 = some (4, 0 + 1, false) := by kernel_rfl
theorem fd60_5 : fldTy Tryd.prog 60 5 = some (5, 0 + 1, false) := by kernel_rfl
theorem fk29 : flatK Tryd.prog 29 = some [2, 1] := by kernel_rfl
theorem ik3 : intK Tryd.prog 3 = some .i64 := by kernel_rfl
theorem ik5 : intK Tryd.prog 5 = some .u8 := by kernel_rfl
theorem iss9 : isStr Tryd.prog 9 = true := by kernel_rfl
theorem sl108 : slTy Tryd.prog 108 = some (9, 1, 16) := by kernel_rfl
theorem sl30 : slTy Tryd.prog 30 = some (60, 6, 72) := by kernel_rfl
theorem sl41 : slTy Tryd.prog 41 = some (32, 6, 72) := by kernel_rfl
theorem sl47 : slTy Tryd.prog 47 = some (5, 1, 1) := by kernel_rfl
theorem sl96 : slTy Tryd.prog 96 = some (3, 1, 8) := by kernel_rfl
theorem stc115 : strTy Tryd.prog 115 = some ([(0, 1), (1, 1), (2, 1)], [.slice none 0 0, .int .i64 0, .int .i64 0]) := by kernel_rfl
theorem stc29 : strTy Tryd.prog 29 = some ([(0, 1), (1, 1)], [.string ⟨#[]⟩, .int .i64 0]) := by kernel_rfl
theorem stc32 : strTy Tryd.prog 32 = some ([(0, 2), (2, 1), (3, 1), (4, 1), (5, 1)], [.string ⟨#[]⟩, .int .i64 0, .int .i64 0, .slice none 0 0, .int .i64 0, .int .i64 0]) := by kernel_rfl
theorem stc43 : strTy Tryd.prog 43 = some ([(0, 1), (1, 1)], [.int .i64 0, .slice none 0 0]) := by kernel_rfl
theorem stc60 : strTy Tryd.prog 60 = some ([(0, 1), (1, 1), (2, 1), (3, 1), (4, 1), (5, 1)], [.string ⟨#[]⟩, .int .i64 0, .int .i64 0, .int .i64 0, .string ⟨#[]⟩, .string ⟨#[]⟩]) := by kernel_rfl
theorem ty29 : tyK Tryd.prog 29 = some (true, 2) := by kernel_rfl
theorem ty3 : tyK Tryd.prog 3 = some (false, 1) := by kernel_rfl
theorem ty30 : tyK Tryd.prog 30 = some (false, 1) := by kernel_rfl
theorem ty32 : tyK Tryd.prog 32 = some (true, 6) := by kernel_rfl
theorem ty41 : tyK Tryd.prog 41 = some (false, 1) := by kernel_rfl
theorem ty43 : tyK Tryd.prog 43 = some (true, 2) := by kernel_rfl
theorem ty47 : tyK Tryd.prog 47 = some (false, 1) := by kernel_rfl
theorem ty5 : tyK Tryd.prog 5 = some (false, 1) := by kernel_rfl
theorem ty60 : tyK Tryd.prog 60 = some (true, 6) := by kernel_rfl
theorem ty9 : tyK Tryd.prog 9 = some (false, 1) := by kernel_rfl
theorem zc3 : zeroC Tryd.prog 3 = some [.int .i64 0] := by kernel_rfl
theorem zc32 : zeroC Tryd.prog 32 = some [.string ⟨#[]⟩, .int .i64 0, .int .i64 0, .slice none 0 0, .int .i64 0, .int .i64 0] := by kernel_rfl
theorem zc43 : zeroC Tryd.prog 43 = some [.int .i64 0, .slice none 0 0] := by kernel_rfl
theorem zc60 : zeroC Tryd.prog 60 = some [.string ⟨#[]⟩, .int .i64 0, .int .i64 0, .int .i64 0, .string ⟨#[]⟩, .string ⟨#[]⟩] := by kernel_rfl
theorem zc9 : zeroC Tryd.prog 9 = some [.string ⟨#[]⟩] := by kernel_rfl
theorem mixed : Tryd.prog.follows .mixedOrders = true := by kernel_rfl
/- laws.big -/

set_option maxRecDepth 4000 in
set_option maxHeartbeats 800000 in
theorem ww_big (p0 : List Int) (r0 : Bool) (h : w_big p0 = some r0) : Runs Tryd.prog 19 [.lst 1 (List.map byteV p0)] [] (.sc (.bool r0)) [] := by
  unfold w_big at h
  refine runsR [.tmp 2] Tryd.func19 rfl rfl rfl rfl ?_
  rw [Tryd.ntmps19]
  refine tri_seq ?_
  refine tri_region ?_
  refine s_mv (.inr rfl) (v := .sc (.bool false)) rfl rfl rfl rfl ?_
  refine rt_nil ?_
  refine tri_seq ?_
  refine tri_region ?_
  refine s_mv (.inl rfl) (by conv => lhs; whnf) rfl rfl rfl ?_
  refine s_lenL rfl sl47 rfl rfl rfl rfl ?_
  refine s_of (st_gtr rfl rfl rfl) rfl rfl rfl rfl ?_
  refine s_mv (.inr rfl) (by conv => lhs; whnf) rfl rfl rfl ?_
  refine rt_nil ?_
  refine tri_ret ?_
  have e0 := (some1 h); subst e0
  exact endY [] [] (rvC (resTmp rfl) rvN) trivial trivial rfl rfl rfl rfl (.free rfl)

/- spec.l1New -/
def inv_s_l1New_2 (p0 : List Int) (v1_0 : Int) (v1_1 : Int) (j2_0 : Bool) : St := mkT 32 [(0, .lst 1 (List.map byteV p0)), (3, .sc (.int .i64 v1_0)), (4, .sc (.int .i64 v1_1)), (15, .sc (.bool j2_0))] []
def inv_s_l1New_1 (p0 : List Int) (v1_0 : Int) (v1_1 : Int) : St := mkT 32 [(0, .lst 1 (List.map byteV p0)), (3, .sc (.int .i64 v1_0)), (4, .sc (.int .i64 v1_1))] []
def inv_s_l1New_0 (p0 : List Int) (j0_0 : Int) : St := mkT 32 [(0, .lst 1 (List.map byteV p0)), (3, .sc (.int .i64 j0_0))] []
set_option maxRecDepth 4000 in
set_option maxHeartbeats 800000 in
theorem ws_l1New (p0 : List Int) (r0 : Cur) (h : s_l1New p0 = some r0) : Runs Tryd.prog 59 [.lst 1 (List.map byteV p0)] [] (.obox 115 (curV r0)) [] := by
  unfold s_l1New at h
  refine runsR [.tmp 2] Tryd.func59 rfl rfl rfl rfl ?_
  rw [Tryd.ntmps59]
  refine tri_seq ?_
  refine tri_region ?_
  refine s_mv (.inr rfl) (v := .sc (.pointer none)) rfl rfl rfl rfl ?_
  refine rt_nil ?_
  refine tri_seq ?_
  refine tri_region ?_
  refine s_mv (.inl rfl) (by conv => lhs; whnf) rfl rfl rfl ?_
  refine s_lenL rfl sl47 rfl rfl rfl rfl ?_
  refine s_of (st_add rfl rfl rfl) rfl rfl rfl rfl ?_
  refine s_mv (.inr rfl) (by conv => lhs; whnf) rfl rfl rfl ?_
  refine rt_nil ?_
  refine tri_cutI (ι := { p : Int // s_l1New_j0 p0 p = some r0 }) (fun p => inv_s_l1New_0 p0 p.1) ?_ ?_
  · skip
    refine tri_seq ?_
    refine tri_region ?_
    refine s_mv (.inr rfl) (v := .sc (.int .i64 0)) rfl rfl rfl rfl ?_
    refine rt_nil ?_
    refine tri_block ?_
    refine tri_loop (ι := { p : Nat × Int × Int // s_l1New_l1 p0 p.1 p.2.1 p.2.2 = some r0 }) (fun p => inv_s_l1New_1 p0 p.1.2.1 p.1.2.2) (fun p => p.1.1) ⟨(fuel0, IntKind.i64.wrap (160909 + (p0.length : Int)), 0), h⟩ ?_ ?_
    · skip
      refine entX [] [] trivial trivial rfl rfl ?_
      exact ⟨(.free rfl), (.free rfl), (.free rfl), trivial⟩
    · rintro ⟨⟨f1, v1_0, v1_1⟩, h⟩
      replace h : s_l1New_l1 p0 f1 v1_0 v1_1 = some r0 := h
      cases f1 with
      | zero => cases h
      | succ f1 =>
      rw [s_l1New_l1] at h
      show Tri _ _ _ (inv_s_l1New_1 p0 v1_0 v1_1)
      refine tri_seq ?_
      refine tri_cutI (ι := { p : Bool // s_l1New_j2 p0 v1_0 v1_1 (s_l1New_l1 p0 f1) p = some r0 }) (fun p => inv_s_l1New_2 p0 v1_0 v1_1 p.1) ?_ ?_
      · skip
        refine tri_region ?_
        refine s_mv (.inl rfl) (by conv => lhs; whnf) rfl rfl rfl ?_
        refine s_mv (.inl rfl) (by conv => lhs; whnf) rfl rfl rfl ?_
        refine s_lenL rfl sl47 rfl rfl rfl rfl ?_
        refine s_of (st_lss rfl rfl rfl) rfl rfl rfl rfl ?_
        refine s_mv (.inl rfl) (by conv => lhs; whnf) rfl rfl rfl ?_
        refine s_split (t := 12) rfl (fun b1 => ?_) (fun b1 => ?_)
        · replace h := cond_t h b1
          refine s_mv (.inl rfl) (by conv => lhs; whnf) rfl rfl rfl ?_
          refine s_of (st_lss rfl rfl rfl) rfl rfl rfl rfl ?_
          refine s_pickT rfl rfl (by conv => lhs; whnf) rfl rfl rfl ?_
          refine rt_nil ?_
          refine Exists.intro ⟨decide (v1_1 < 4000), h⟩ ?_
          refine entX [] [] trivial trivial rfl rfl ?_
          exact ⟨(.free rfl), (.free rfl), (.free rfl), (.free rfl), trivial⟩
        · replace h := cond_f h b1
          refine s_skip rfl rfl rfl ?_
          refine s_skip rfl rfl rfl ?_
          refine s_pickF rfl rfl (v := .sc (.bool false)) rfl rfl rfl rfl ?_
          refine rt_nil ?_
          refine Exists.intro ⟨false, h⟩ ?_
          refine entX [] [] trivial trivial rfl rfl ?_
          exact ⟨(.free rfl), (.free rfl), (.free rfl), (.free rfl), trivial⟩
      · rintro ⟨j2_0, h⟩
        replace h : s_l1New_j2 p0 v1_0 v1_1 (s_l1New_l1 p0 f1) j2_0 = some r0 := h
        unfold s_l1New_j2 at h
        show Tri _ _ _ (inv_s_l1New_2 p0 v1_0 v1_1 j2_0)
        refine tri_cond rfl (fun c1 => ?_) (fun c1 => ?_)
        · replace h := cond_t h c1
          refine tri_skip ?_
          refine tri_seq ?_
          refine tri_block ?_
          refine tri_region ?_
          refine s_mv (.inl rfl) (by conv => lhs; whnf) rfl rfl rfl ?_
          refine s_of (st_mul rfl rfl rfl) rfl rfl rfl rfl ?_
          refine s_mv (.inl rfl) (by conv => lhs; whnf) rfl rfl rfl ?_
          refine s_mv (.inl rfl) (by conv => lhs; whnf) rfl rfl rfl ?_
          refine bnd1_elim h fun x2 q3 h => ?_
          have q3a := (idx_some q3).1; have q3b := (idx_some q3).2
          refine s_indexFZ rfl rfl rfl sl47 q3a (get_ltM q3b) rfl rfl rfl ?_
          refine s_loadF rfl rfl (rowG q3b) ty5 rfl (.inr rfl) (by conv => lhs; whnf) rfl rfl rfl ?_
          refine s_of (st_conv ik5 ik3 rfl rfl) rfl rfl rfl rfl ?_
          refine s_of (st_add rfl rfl rfl) rfl rfl rfl rfl ?_
          refine s_of (st_add rfl rfl rfl) rfl rfl rfl rfl ?_
          refine s_of (st_andD rfl rfl rfl) rfl rfl rfl rfl ?_
          refine s_mv (.inr rfl) (by conv => lhs; whnf) rfl rfl rfl ?_
          refine rt_nil ?_
          refine tri_region ?_
          refine s_mv (.inl rfl) (by conv => lhs; whnf) rfl rfl rfl ?_
          refine s_of (st_add rfl rfl rfl) rfl rfl rfl rfl ?_
          refine s_mv (.inr rfl) (by conv => lhs; whnf) rfl rfl rfl ?_
          refine rt_nil ?_
          refine Exists.intro ⟨(f1, iand .i64 (IntKind.i64.wrap ((IntKind.i64.wrap ((IntKind.i64.wrap (v1_0 * 137)) + (IntKind.i64.wrap x2))) + 11)) 1073741823, IntKind.i64.wrap (v1_1 + 1)), h⟩ (And.intro (Nat.lt_succ_self _) ?_)
          refine entX [] [] trivial trivial rfl rfl ?_
          exact ⟨(.free rfl), (.free rfl), (.free rfl), trivial⟩
        · replace h := cond_f h c1
          refine tri_exit ?_
          refine Exists.intro ⟨v1_0, h⟩ ?_
          refine entX [] [] trivial trivial rfl rfl ?_
          exact ⟨(.free rfl), (.free rfl), trivial⟩
  · rintro ⟨j0_0, h⟩
    replace h : s_l1New_j0 p0 j0_0 = some r0 := h
    unfold s_l1New_j0 at h
    show Tri _ _ _ (inv_s_l1New_0 p0 j0_0)
    refine tri_seq ?_
    refine tri_region ?_
    refine s_mv (.inl rfl) (by conv => lhs; whnf) rfl rfl rfl ?_
    refine s_mv (.inl rfl) (by conv => lhs; whnf) rfl rfl rfl ?_
    refine s_build (cells' := [.lst 1 (List.map byteV p0), .sc (.int .i64 0), .sc (.int .i64 j0_0)]) rfl stc115 rfl rfl rfl rfl rfl rfl rfl ?_
    refine s_box rfl rfl rfl rfl rfl rfl rfl ?_
    refine s_mv (.inr rfl) (by conv => lhs; whnf) rfl rfl rfl ?_
    refine rt_nil ?_
    refine tri_ret ?_
    have e0 := (some1 h); subst e0
    exact endY (v' := .ptr (2000, 0) 0 0) [((2000, 0), ⟨115, 3, [[.lst 1 (List.map byteV p0), .sc (.int .i64 0), .sc (.int .i64 j0_0)]], false, true⟩, some (31, 0))] [] (rvC (resTmp rfl) rvN) ⟨⟨rfl, _, rfl, rfl, rfl, rfl, id, rowsCv_one (.cons (.free rfl) (.cons (.free rfl) (.cons (.free rfl) .nil))), rowsZ_one rfl⟩, trivial⟩ trivial rfl rfl (by kernel_rfl) (by first | (simp only [V.mat, V.mat1, V.mat0, matL, matT, List.length_map]; done) | (simp only [V.mat, V.mat1, V.mat0, matL, matT, List.length_map]; rfl)) (.ptr rfl)

/- spec.l1Byte -/

set_option maxRecDepth 4000 in
set_option maxHeartbeats 800000 in
theorem ws_l1Byte (p0 : Cur) (r0 : Int) (r1 : Cur) (h : s_l1Byte p0 = some (r0, r1)) : Runs Tryd.prog 101 [.ptr (1000, 0) 0 0] [⟨115, 3, [[.lst 1 (List.map byteV p0.b), .sc (.int .i64 p0.i), .sc (.int .i64 p0.h)]], false, false⟩] (.sc (.int .i64 r0)) [⟨115, 3, [[.lst 1 (List.map byteV r1.b), .sc (.int .i64 r1.i), .sc (.int .i64 r1.h)]], false, false⟩] := by
  unfold s_l1Byte at h
  refine runsR [.tmp 2] Tryd.func101 rfl rfl rfl rfl ?_
  rw [Tryd.ntmps101]
  refine tri_seq ?_
  refine tri_region ?_
  refine s_mv (.inr rfl) (v := .sc (.int .i64 0)) rfl rfl rfl rfl ?_
  refine rt_nil ?_
  refine tri_seq ?_
  refine tri_region ?_
  refine s_mv (.inl rfl) (by conv => lhs; whnf) rfl rfl rfl ?_
  refine s_mv (.inl rfl) (by conv => lhs; whnf) rfl rfl rfl ?_
  refine s_nilCheck rfl (by conv => lhs; whnf) (.inl ⟨_, _, _, rfl⟩) rfl rfl rfl ?_
  refine s_fieldAddr rfl rfl fd115_2 rfl rfl rfl rfl ?_
  refine s_load rfl rfl rfl rfl ty3 rfl (.inr rfl) (by conv => lhs; whnf) rfl rfl rfl ?_
  refine s_of (st_mul rfl rfl rfl) rfl rfl rfl rfl ?_
  refine s_of (st_add rfl rfl rfl) rfl rfl rfl rfl ?_
  refine s_nilCheck rfl (by conv => lhs; whnf) (.inl ⟨_, _, _, rfl⟩) rfl rfl rfl ?_
  refine s_fieldAddr rfl rfl fd115_2 rfl rfl rfl rfl ?_
  refine s_store (rows' := [[.lst 1 (List.map byteV p0.b), .sc (.int .i64 p0.i), .sc (.int .i64 (IntKind.i64.wrap ((IntKind.i64.wrap (p0.h * 6364136223846793005)) + 1442695040888963407)))]]) rfl rfl rfl rfl ty3 rfl rfl rfl rfl rfl rfl ?_
  refine rt_nil ?_
  refine tri_seq ?_
  refine tri_draw mixed ?_
  refine s_mv (.inl rfl) (by conv => lhs; whnf) rfl rfl rfl ?_
  refine s_nilCheck rfl (by conv => lhs; whnf) (.inl ⟨_, _, _, rfl⟩) rfl rfl rfl ?_
  refine s_fieldAddr rfl rfl fd115_2 rfl rfl rfl rfl ?_
  refine s_load rfl rfl rfl rfl ty3 rfl (.inr rfl) (by conv => lhs; whnf) rfl rfl rfl ?_
  refine s_of (st_shrD (b := 33) rfl rfl rfl) rfl rfl rfl rfl ?_
  refine s_mv (.inl rfl) (by conv => lhs; whnf) rfl rfl rfl ?_
  refine s_nilCheck rfl (by conv => lhs; whnf) (.inl ⟨_, _, _, rfl⟩) rfl rfl rfl ?_
  refine s_fieldAddr rfl rfl fd115_2 rfl rfl rfl rfl ?_
  refine s_load rfl rfl rfl rfl ty3 rfl (.inr rfl) (by conv => lhs; whnf) rfl rfl rfl ?_
  refine s_of (st_shrD (b := 47) rfl rfl rfl) rfl rfl rfl rfl ?_
  refine s_of (st_xorD rfl rfl rfl) rfl rfl rfl rfl ?_
  refine s_of (st_andD rfl rfl rfl) rfl rfl rfl rfl ?_
  refine s_mv (.inr rfl) (by conv => lhs; whnf) rfl rfl rfl ?_
  refine rt_nil ⟨by kernel_rfl, ?_⟩
  refine tri_seq ?_
  refine tri_seq ?_
  refine tri_draw mixed ?_
  refine s_mv (.inl rfl) (by conv => lhs; whnf) rfl rfl rfl ?_
  refine s_nilCheck rfl (by conv => lhs; whnf) (.inl ⟨_, _, _, rfl⟩) rfl rfl rfl ?_
  refine s_fieldAddr rfl rfl fd115_1 rfl rfl rfl rfl ?_
  refine s_load rfl rfl rfl rfl ty3 rfl (.inr rfl) (by conv => lhs; whnf) rfl rfl rfl ?_
  refine s_mv (.inl rfl) (by conv => lhs; whnf) rfl rfl rfl ?_
  refine s_nilCheck rfl (by conv => lhs; whnf) (.inl ⟨_, _, _, rfl⟩) rfl rfl rfl ?_
  refine s_fieldAddr rfl rfl fd115_0 rfl rfl rfl rfl ?_
  refine s_load rfl rfl rfl rfl ty47 rfl (.inr rfl) (by conv => lhs; whnf) rfl rfl rfl ?_
  refine s_lenL rfl sl47 rfl rfl rfl rfl ?_
  refine s_of (st_lss rfl rfl rfl) rfl rfl rfl rfl ?_
  refine rt_nil ⟨by kernel_rfl, ?_⟩
  refine tri_cond rfl (fun c1 => ?_) (fun c1 => ?_)
  · replace h := cond_t h c1
    refine tri_seq ?_
    refine tri_draw mixed ?_
    refine s_mv (.inl rfl) (by conv => lhs; whnf) rfl rfl rfl ?_
    refine s_mv (.inl rfl) (by conv => lhs; whnf) rfl rfl rfl ?_
    refine s_nilCheck rfl (by conv => lhs; whnf) (.inl ⟨_, _, _, rfl⟩) rfl rfl rfl ?_
    refine s_fieldAddr rfl rfl fd115_0 rfl rfl rfl rfl ?_
    refine s_load rfl rfl rfl rfl ty47 rfl (.inr rfl) (by conv => lhs; whnf) rfl rfl rfl ?_
    refine s_mv (.inl rfl) (by conv => lhs; whnf) rfl rfl rfl ?_
    refine s_nilCheck rfl (by conv => lhs; whnf) (.inl ⟨_, _, _, rfl⟩) rfl rfl rfl ?_
    refine s_fieldAddr rfl rfl fd115_1 rfl rfl rfl rfl ?_
    refine s_load rfl rfl rfl rfl ty3 rfl (.inr rfl) (by conv => lhs; whnf) rfl rfl rfl ?_
    refine bnd1_elim h fun x2 q3 h => ?_
    have q3a := (idx_some q3).1; have q3b := (idx_some q3).2
    refine s_indexFZ rfl rfl rfl sl47 q3a (get_ltM q3b) rfl rfl rfl ?_
    refine s_loadF rfl rfl (rowG q3b) ty5 rfl (.inr rfl) (by conv => lhs; whnf) rfl rfl rfl ?_
    refine s_of (st_conv ik5 ik3 rfl rfl) rfl rfl rfl rfl ?_
    refine s_of (st_add rfl rfl rfl) rfl rfl rfl rfl ?_
    refine s_of (st_andD rfl rfl rfl) rfl rfl rfl rfl ?_
    refine s_mv (.inr rfl) (by conv => lhs; whnf) rfl rfl rfl ?_
    refine rt_nil ⟨by kernel_rfl, ?_⟩
    refine tri_region ?_
    refine s_mv (.inl rfl) (by conv => lhs; whnf) rfl rfl rfl ?_
    refine s_mv (.inl rfl) (by conv => lhs; whnf) rfl rfl rfl ?_
    refine s_nilCheck rfl (by conv => lhs; whnf) (.inl ⟨_, _, _, rfl⟩) rfl rfl rfl ?_
    refine s_fieldAddr rfl rfl fd115_1 rfl rfl rfl rfl ?_
    refine s_load rfl rfl rfl rfl ty3 rfl (.inr rfl) (by conv => lhs; whnf) rfl rfl rfl ?_
    refine s_of (st_add rfl rfl rfl) rfl rfl rfl rfl ?_
    refine s_nilCheck rfl (by conv => lhs; whnf) (.inl ⟨_, _, _, rfl⟩) rfl rfl rfl ?_
    refine s_fieldAddr rfl rfl fd115_1 rfl rfl rfl rfl ?_
    refine s_store (rows' := [[.lst 1 (List.map byteV p0.b), .sc (.int .i64 (IntKind.i64.wrap (p0.i + 1))), .sc (.int .i64 (IntKind.i64.wrap ((IntKind.i64.wrap (p0.h * 6364136223846793005)) + 1442695040888963407)))]]) rfl rfl rfl rfl ty3 rfl rfl rfl rfl rfl rfl ?_
    refine rt_nil ?_
    refine tri_seq ?_
    refine tri_region ?_
    refine s_mv (.inl rfl) (by conv => lhs; whnf) rfl rfl rfl ?_
    refine s_mv (.inr rfl) (by conv => lhs; whnf) rfl rfl rfl ?_
    refine rt_nil ?_
    refine tri_ret ?_
    have e0 := (some2 h).1; have e1 := (some2 h).2; subst e0; subst e1
    exact endY [((1000, 0), ⟨115, 3, [[.lst 1 (List.map byteV p0.b), .sc (.int .i64 (IntKind.i64.wrap (p0.i + 1))), .sc (.int .i64 (IntKind.i64.wrap ((IntKind.i64.wrap (p0.h * 6364136223846793005)) + 1442695040888963407)))]], false, false⟩, some (1000, 0))] [] (rvC (resTmp rfl) rvN) ⟨⟨rfl, _, rfl, rfl, rfl, rfl, id, rowsCv_one (.cons (.free rfl) (.cons (.free rfl) (.cons (.free rfl) .nil))), rowsZ_one rfl⟩, trivial⟩ trivial rfl rfl (by kernel_rfl) rfl (.free rfl)
  · replace h := cond_f h c1
    refine tri_skip ?_
    refine tri_seq ?_
    refine tri_region ?_
    refine s_mv (.inl rfl) (by conv => lhs; whnf) rfl rfl rfl ?_
    refine s_mv (.inr rfl) (by conv => lhs; whnf) rfl rfl rfl ?_
    refine rt_nil ?_
    refine tri_ret ?_
    have e0 := (some2 h).1; have e1 := (some2 h).2; subst e0; subst e1
    exact endY [((1000, 0), ⟨115, 3, [[.lst 1 (List.map byteV p0.b), .sc (.int .i64 p0.i), .sc (.int .i64 (IntKind.i64.wrap ((IntKind.i64.wrap (p0.h * 6364136223846793005)) + 1442695040888963407)))]], false, false⟩, some (1000, 0))] [] (rvC (resTmp rfl) rvN) ⟨⟨rfl, _, rfl, rfl, rfl, rfl, id, rowsCv_one (.cons (.free rfl) (.cons (.free rfl) (.cons (.free rfl) .nil))), rowsZ_one rfl⟩, trivial⟩ trivial rfl rfl (by kernel_rfl) rfl (.free rfl)

/- spec.l1Below -/

set_option maxRecDepth 4000 in
set_option maxHeartbeats 800000 in
theorem ws_l1Below (p0 : Cur) (p1 : Int) (r0 : Int) (r1 : Cur) (h : s_l1Below p0 p1 = some (r0, r1)) : Runs Tryd.prog 61 [.ptr (1000, 0) 0 0, .sc (.int .i64 p1)] [⟨115, 3, [[.lst 1 (List.map byteV p0.b), .sc (.int .i64 p0.i), .sc (.int .i64 p0.h)]], false, false⟩] (.sc (.int .i64 r0)) [⟨115, 3, [[.lst 1 (List.map byteV r1.b), .sc (.int .i64 r1.i), .sc (.int .i64 r1.h)]], false, false⟩] := by
  unfold s_l1Below at h
  refine runsR [.tmp 4] Tryd.func61 rfl rfl rfl rfl ?_
  rw [Tryd.ntmps61]
  refine tri_seq ?_
  refine tri_region ?_
  refine s_mv (.inr rfl) (v := .sc (.int .i64 0)) rfl rfl rfl rfl ?_
  refine rt_nil ?_
  refine tri_seq ?_
  refine tri_seq ?_
  refine tri_region ?_
  refine s_mv (.inl rfl) (by conv => lhs; whnf) rfl rfl rfl ?_
  refine s_of (st_leq rfl rfl rfl) rfl rfl rfl rfl ?_
  refine rt_nil ?_
  refine tri_cond rfl (fun c1 => ?_) (fun c1 => ?_)
  · replace h := cond_t h c1
    refine tri_seq ?_
    refine tri_region ?_
    refine s_mv (.inr rfl) (v := .sc (.int .i64 0)) rfl rfl rfl rfl ?_
    refine rt_nil ?_
    refine tri_ret ?_
    have e0 := (some2 h).1; have e1 := (some2 h).2; subst e0; subst e1
    exact endY [((1000, 0), ⟨115, 3, [[.lst 1 (List.map byteV p0.b), .sc (.int .i64 p0.i), .sc (.int .i64 p0.h)]], false, false⟩, some (1000, 0))] [] (rvC (resTmp rfl) rvN) ⟨⟨rfl, _, rfl, rfl, rfl, rfl, id, rowsCv_one (.cons (.free rfl) (.cons (.free rfl) (.cons (.free rfl) .nil))), rowsZ_one rfl⟩, trivial⟩ trivial rfl rfl (by kernel_rfl) rfl (.free rfl)
  · replace h := cond_f h c1
    refine tri_skip ?_
    refine tri_seq ?_
    refine tri_seq ?_
    refine tri_region ?_
    refine s_mv (.inl rfl) (by conv => lhs; whnf) rfl rfl rfl ?_
    refine s_of (st_leq rfl rfl rfl) rfl rfl rfl rfl ?_
    refine rt_nil ?_
    refine tri_cond rfl (fun c2 => ?_) (fun c2 => ?_)
    · replace h := cond_t h c2
      refine tri_seq ?_
      refine tri_region ?_
      refine s_mv (.inl rfl) (by conv => lhs; whnf) rfl rfl rfl ?_
      refine bnd2_elim h fun x3 x4 q5 h => ?_
      refine s_callZ (kb := []) (ns := [(1000, 0)]) (v := .sc (.int .i64 x3)) rfl rfl cl101 (ws_l1Byte p0 x3 x4 q5) rfl (.cons (.ptrOwn rfl) .nil) ⟨⟨_, rfl, rfl⟩, trivial⟩ (memCons (allFree_one rfl) memNil) (List.nodup_cons.2 ⟨List.not_mem_nil, .nil⟩) memNil trivial rfl trivial (memCons (allFree_one rfl) memNil) rfl rfl rfl rfl rfl rfl ?_
      refine s_mv (.inl rfl) (by conv => lhs; whnf) rfl rfl rfl ?_
      refine grd_elim h fun g6 h => ?_
      refine s_of (st_rem rfl rfl rfl g6) rfl rfl rfl rfl ?_
      refine s_mv (.inr rfl) (by conv => lhs; whnf) rfl rfl rfl ?_
      refine rt_nil ?_
      refine tri_ret ?_
      have e0 := (some2 h).1; have e1 := (some2 h).2; subst e0; subst e1
      exact endY [((1000, 0), ⟨115, 3, [[.lst 1 (List.map byteV x4.b), .sc (.int .i64 x4.i), .sc (.int .i64 x4.h)]], false, false⟩, some (1000, 0))] [] (rvC (resTmp rfl) rvN) ⟨⟨rfl, _, rfl, rfl, rfl, rfl, id, rowsCv_one (.cons (.free rfl) (.cons (.free rfl) (.cons (.free rfl) .nil))), rowsZ_one rfl⟩, trivial⟩ trivial rfl rfl (by kernel_rfl) rfl (.free rfl)
    · replace h := cond_f h c2
      refine tri_skip ?_
      refine tri_seq ?_
      refine tri_region ?_
      refine s_mv (.inl rfl) (by conv => lhs; whnf) rfl rfl rfl ?_
      refine bnd2_elim h fun x7 x8 q9 h => ?_
      refine s_callZ (kb := []) (ns := [(1000, 0)]) (v := .sc (.int .i64 x7)) rfl rfl cl101 (ws_l1Byte p0 x7 x8 q9) rfl (.cons (.ptrOwn rfl) .nil) ⟨⟨_, rfl, rfl⟩, trivial⟩ (memCons (allFree_one rfl) memNil) (List.nodup_cons.2 ⟨List.not_mem_nil, .nil⟩) memNil trivial rfl trivial (memCons (allFree_one rfl) memNil) rfl rfl rfl rfl rfl rfl ?_
      refine s_mv (.inr rfl) (by conv => lhs; whnf) rfl rfl rfl ?_
      refine rt_nil ?_
      refine tri_seq ?_
      refine tri_region ?_
      refine s_mv (.inl rfl) (by conv => lhs; whnf) rfl rfl rfl ?_
      refine bnd2_elim h fun x10 x11 q12 h => ?_
      refine s_callZ (kb := []) (ns := [(1000, 0)]) (v := .sc (.int .i64 x10)) rfl rfl cl101 (ws_l1Byte x8 x10 x11 q12) rfl (.cons (.ptrOwn rfl) .nil) ⟨⟨_, rfl, rfl⟩, trivial⟩ (memCons (allFree_one rfl) memNil) (List.nodup_cons.2 ⟨List.not_mem_nil, .nil⟩) memNil trivial rfl trivial (memCons (allFree_one rfl) memNil) rfl rfl rfl rfl rfl rfl ?_
      refine s_mv (.inr rfl) (by conv => lhs; whnf) rfl rfl rfl ?_
      refine rt_nil ?_
      refine tri_seq ?_
      refine tri_region ?_
      refine s_mv (.inl rfl) (by conv => lhs; whnf) rfl rfl rfl ?_
      refine bnd2_elim h fun x13 x14 q15 h => ?_
      refine s_callZ (kb := []) (ns := [(1000, 0)]) (v := .sc (.int .i64 x13)) rfl rfl cl101 (ws_l1Byte x11 x13 x14 q15) rfl (.cons (.ptrOwn rfl) .nil) ⟨⟨_, rfl, rfl⟩, trivial⟩ (memCons (allFree_one rfl) memNil) (List.nodup_cons.2 ⟨List.not_mem_nil, .nil⟩) memNil trivial rfl trivial (memCons (allFree_one rfl) memNil) rfl rfl rfl rfl rfl rfl ?_
      refine s_mv (.inr rfl) (by conv => lhs; whnf) rfl rfl rfl ?_
      refine rt_nil ?_
      refine tri_seq ?_
      refine tri_region ?_
      refine s_mv (.inl rfl) (by conv => lhs; whnf) rfl rfl rfl ?_
      refine grd_elim h fun g16 h => ?_
      refine s_mulI rfl rfl rfl rfl g16 rfl rfl rfl ?_
      refine s_mv (.inl rfl) (by conv => lhs; whnf) rfl rfl rfl ?_
      refine grd_elim h fun g17 h => ?_
      refine s_mulI rfl rfl rfl rfl g17 rfl rfl rfl ?_
      refine grd_elim h fun g18 h => ?_
      refine s_addI rfl rfl rfl rfl g18 rfl rfl rfl ?_
      refine s_mv (.inl rfl) (by conv => lhs; whnf) rfl rfl rfl ?_
      refine grd_elim h fun g19 h => ?_
      refine s_addI rfl rfl rfl rfl g19 rfl rfl rfl ?_
      refine s_mv (.inl rfl) (by conv => lhs; whnf) rfl rfl rfl ?_
      refine grd_elim h fun g20 h => ?_
      refine s_of (st_rem rfl rfl rfl g20) rfl rfl rfl rfl ?_
      refine s_mv (.inr rfl) (by conv => lhs; whnf) rfl rfl rfl ?_
      refine rt_nil ?_
      refine tri_ret ?_
      have e0 := (some2 h).1; have e1 := (some2 h).2; subst e0; subst e1
      exact endY [((1000, 0), ⟨115, 3, [[.lst 1 (List.map byteV x14.b), .sc (.int .i64 x14.i), .sc (.int .i64 x14.h)]], false, false⟩, some (1000, 0))] [] (rvC (resTmp rfl) rvN) ⟨⟨rfl, _, rfl, rfl, rfl, rfl, id, rowsCv_one (.cons (.free rfl) (.cons (.free rfl) (.cons (.free rfl) .nil))), rowsZ_one rfl⟩, trivial⟩ trivial rfl rfl (by kernel_rfl) rfl (.free rfl)

/- spec.l1In -/

set_option maxRecDepth 4000 in
set_option maxHeartbeats 800000 in
theorem ws_l1In (p0 : Int) (p1 : Int) (p2 : Int) (r0 : Bool) (h : s_l1In p0 p1 p2 = some r0) : Runs Tryd.prog 41 [.sc (.int .i64 p0), .sc (.int .i64 p1), .sc (.int .i64 p2)] [] (.sc (.bool r0)) [] := by
  unfold s_l1In at h
  refine runsR [.tmp 6] Tryd.func41 rfl rfl rfl rfl ?_
  rw [Tryd.ntmps41]
  refine tri_seq ?_
  refine tri_region ?_
  refine s_mv (.inr rfl) (v := .sc (.bool false)) rfl rfl rfl rfl ?_
  refine rt_nil ?_
  refine tri_seq ?_
  refine tri_region ?_
  refine s_mv (.inl rfl) (by conv => lhs; whnf) rfl rfl rfl ?_
  refine s_mv (.inl rfl) (by conv => lhs; whnf) rfl rfl rfl ?_
  refine s_of (st_geq rfl rfl rfl) rfl rfl rfl rfl ?_
  refine s_mv (.inl rfl) (by conv => lhs; whnf) rfl rfl rfl ?_
  refine s_split (t := 10) rfl (fun b1 => ?_) (fun b1 => ?_)
  · replace h := cond_t h b1
    refine s_mv (.inl rfl) (by conv => lhs; whnf) rfl rfl rfl ?_
    refine s_mv (.inl rfl) (by conv => lhs; whnf) rfl rfl rfl ?_
    refine s_of (st_leq rfl rfl rfl) rfl rfl rfl rfl ?_
    refine s_pickT rfl rfl (by conv => lhs; whnf) rfl rfl rfl ?_
    refine s_mv (.inr rfl) (by conv => lhs; whnf) rfl rfl rfl ?_
    refine rt_nil ?_
    refine tri_ret ?_
    have e0 := (some1 h); subst e0
    exact endY [] [] (rvC (resTmp rfl) rvN) trivial trivial rfl rfl rfl rfl (.free rfl)
  · replace h := cond_f h b1
    refine s_skip rfl rfl rfl ?_
    refine s_skip rfl rfl rfl ?_
    refine s_skip rfl rfl rfl ?_
    refine s_pickF rfl rfl (v := .sc (.bool false)) rfl rfl rfl rfl ?_
    refine s_mv (.inr rfl) (by conv => lhs; whnf) rfl rfl rfl ?_
    refine rt_nil ?_
    refine tri_ret ?_
    have e0 := (some1 h); subst e0
    exact endY [] [] (rvC (resTmp rfl) rvN) trivial trivial rfl rfl rfl rfl (.free rfl)

/- spec.CacheNew -/
def inv_s_CacheNew_0  (j0_0 : Int) : St := mkT 8 [(0, .sc (.int .i64 j0_0)), (2, .ptr (2, 0) 0 0)] [((2, 0), some ⟨43, 2, [[.sc (.int .i64 0), .nils]], false, true⟩)]
set_option maxRecDepth 4000 in
set_option maxHeartbeats 800000 in
theorem ws_CacheNew (p0 : Int) (r0 : MCache) (h : s_CacheNew p0 = some r0) : Runs Tryd.prog 31 [.sc (.int .i64 p0)] [] (.agg [.sc (.int .i64 r0.cap), .own 32 6 (List.map mEntryV r0.l)]) [] := by
  unfold s_CacheNew at h
  refine runsR [.cell 2 43] Tryd.func31 rfl rfl rfl rfl ?_
  rw [Tryd.ntmps31]
  refine tri_seq ?_
  refine tri_region ?_
  refine s_alloc rfl rfl rfl zc43 rfl rfl rfl rfl rfl ?_
  refine rt_nil ?_
  refine tri_cutI (ι := { p : Int // s_CacheNew_j0 p = some r0 }) (fun p => inv_s_CacheNew_0 p.1) ?_ ?_
  · skip
    refine tri_seq ?_
    refine tri_region ?_
    refine s_mv (.inl rfl) (by conv => lhs; whnf) rfl rfl rfl ?_
    refine bnd1_elim h fun x1 q2 h => ?_
    refine s_callN (kb := []) (ns := []) (v := .sc (.bool x1)) rfl rfl cl41 (ws_l1In p0 1 60 x1 q2) rfl (.cons (.free rfl) (.cons (.free rfl) (.cons (.free rfl) .nil))) trivial memNil .nil memNil rfl trivial memNil rfl rfl rfl rfl rfl rfl ?_
    refine s_of (st_not rfl rfl) rfl rfl rfl rfl ?_
    refine rt_nil ?_
    refine tri_cond rfl (fun c3 => ?_) (fun c3 => ?_)
    · replace h := cond_t h c3
      refine tri_region ?_
      refine s_mv (.inr rfl) (v := .sc (.int .i64 1)) rfl rfl rfl rfl ?_
      refine rt_nil ?_
      refine Exists.intro ⟨1, h⟩ ?_
      refine entX [((2, 0), ⟨43, 2, [[.sc (.int .i64 0), .nils]], false, true⟩, some (2, 0))] [] ⟨⟨rfl, _, rfl, rfl, rfl, rfl, id, rowsCv_one (.cons (.free rfl) (.cons (.free rfl) .nil)), rowsZ_one rfl⟩, trivial⟩ trivial rfl rfl ?_
      exact ⟨(.free rfl), (.ptr rfl), trivial⟩
    · replace h := cond_f h c3
      refine tri_skip ?_
      refine Exists.intro ⟨p0, h⟩ ?_
      refine entX [((2, 0), ⟨43, 2, [[.sc (.int .i64 0), .nils]], false, true⟩, some (2, 0))] [] ⟨⟨rfl, _, rfl, rfl, rfl, rfl, id, rowsCv_one (.cons (.free rfl) (.cons (.free rfl) .nil)), rowsZ_one rfl⟩, trivial⟩ trivial rfl rfl ?_
      exact ⟨(.free rfl), (.ptr rfl), trivial⟩
  · rintro ⟨j0_0, h⟩
    replace h : s_CacheNew_j0 j0_0 = some r0 := h
    unfold s_CacheNew_j0 at h
    show Tri _ _ _ (inv_s_CacheNew_0 j0_0)
    refine tri_seq ?_
    refine tri_region ?_
    refine s_mv (.inl rfl) (by conv => lhs; whnf) rfl rfl rfl ?_
    refine s_build (cells' := [.sc (.int .i64 j0_0), .nils]) rfl stc43 rfl rfl rfl rfl rfl rfl rfl ?_
    refine s_storeB rfl rfl rfl ty43 rfl rfl rfl rfl rfl ?_
    refine rt_nil ?_
    refine tri_ret ?_
    have e0 := (some1 h); subst e0
    exact endY (v' := .agg [.sc (.int .i64 j0_0), .ref (2000, 1) 0 (([] : List MEntry).length)]) [((2000, 1), ⟨32, 6, List.map mEntryV ([] : List MEntry), false, true⟩, none)] [] (rvC (resCell rfl rfl ty43) rvN) ⟨rfl, trivial⟩ trivial rfl rfl (by kernel_rfl) (by first | (simp only [V.mat, V.mat1, V.mat0, matL, matT, List.length_map]; done) | (simp only [V.mat, V.mat1, V.mat0, matL, matT, List.length_map]; rfl)) (CvL.agg (.cons (.free rfl) (.cons (.nilRef rfl) .nil)))

/- spec.l1Str -/

set_option maxRecDepth 4000 in
set_option maxHeartbeats 800000 in
theorem ws_l1Str (p0 : Cur) (p1 : List ByteArray) (r0 : ByteArray) (r1 : Cur) (h : s_l1Str p0 p1 = some (r0, r1)) : Runs Tryd.prog 122 [.ptr (1000, 0) 0 0, .lst 1 (List.map strV p1)] [⟨115, 3, [[.lst 1 (List.map byteV p0.b), .sc (.int .i64 p0.i), .sc (.int .i64 p0.h)]], false, false⟩] (.sc (.string r0)) [⟨115, 3, [[.lst 1 (List.map byteV r1.b), .sc (.int .i64 r1.i), .sc (.int .i64 r1.h)]], false, false⟩] := by
  unfold s_l1Str at h
  refine runsR [.tmp 4] Tryd.func122 rfl rfl rfl rfl ?_
  rw [Tryd.ntmps122]
  refine tri_seq ?_
  refine tri_region ?_
  refine s_mv (.inr rfl) (v := .sc (.string (⟨#[]⟩ : ByteArray))) rfl rfl rfl rfl ?_
  refine rt_nil ?_
  refine tri_seq ?_
  refine tri_region ?_
  refine s_mv (.inl rfl) (by conv => lhs; whnf) rfl rfl rfl ?_
  refine s_mv (.inl rfl) (by conv => lhs; whnf) rfl rfl rfl ?_
  refine s_mv (.inl rfl) (by conv => lhs; whnf) rfl rfl rfl ?_
  refine s_lenL rfl sl108 rfl rfl rfl rfl ?_
  refine bnd2_elim h fun x1 x2 q3 h => ?_
  refine s_callZ (kb := []) (ns := [(1000, 0)]) (v := .sc (.int .i64 x1)) rfl rfl cl61 (ws_l1Below p0 (p1.length : Int) x1 x2 q3) rfl (.cons (.ptrOwn rfl) (.cons (.free rfl) .nil)) ⟨⟨_, rfl, rfl⟩, trivial⟩ (memCons (allFree_one rfl) memNil) (List.nodup_cons.2 ⟨List.not_mem_nil, .nil⟩) memNil trivial rfl trivial (memCons (allFree_one rfl) memNil) rfl rfl rfl rfl rfl rfl ?_
  refine bnd1_elim h fun x4 q5 h => ?_
  have q5a := (idx_some q5).1; have q5b := (idx_some q5).2
  refine s_indexFZ rfl rfl rfl sl108 q5a (get_ltM q5b) rfl rfl rfl ?_
  refine s_loadF rfl rfl (rowG q5b) ty9 rfl (.inr rfl) (by conv => lhs; whnf) rfl rfl rfl ?_
  refine s_mv (.inr rfl) (by conv => lhs; whnf) rfl rfl rfl ?_
  refine rt_nil ?_
  refine tri_ret ?_
  have e0 := (some2 h).1; have e1 := (some2 h).2; subst e0; subst e1
  exact endY [((1000, 0), ⟨115, 3, [[.lst 1 (List.map byteV x2.b), .sc (.int .i64 x2.i), .sc (.int .i64 x2.h)]], false, false⟩, some (1000, 0))] [] (rvC (resTmp rfl) rvN) ⟨⟨rfl, _, rfl, rfl, rfl, rfl, id, rowsCv_one (.cons (.free rfl) (.cons (.free rfl) (.cons (.free rfl) .nil))), rowsZ_one rfl⟩, trivial⟩ trivial rfl rfl (by kernel_rfl) rfl (.free rfl)

/- spec.l3Name -/

set_option maxRecDepth 4000 in
set_option maxHeartbeats 800000 in
theorem ws_l3Name (p0 : Cur) (r0 : ByteArray) (r1 : Cur) (h : s_l3Name p0 = some (r0, r1)) : Runs Tryd.prog 103 [.ptr (1000, 0) 0 0] [⟨115, 3, [[.lst 1 (List.map byteV p0.b), .sc (.int .i64 p0.i), .sc (.int .i64 p0.h)]], false, false⟩] (.sc (.string r0)) [⟨115, 3, [[.lst 1 (List.map byteV r1.b), .sc (.int .i64 r1.i), .sc (.int .i64 r1.h)]], false, false⟩] := by
  unfold s_l3Name at h
  refine runsR [.tmp 2] Tryd.func103 rfl rfl rfl rfl ?_
  rw [Tryd.ntmps103]
  refine tri_seq ?_
  refine tri_region ?_
  refine s_mv (.inr rfl) (v := .sc (.string (⟨#[]⟩ : ByteArray))) rfl rfl rfl rfl ?_
  refine rt_nil ?_
  refine tri_seq ?_
  refine tri_region ?_
  refine s_mv (.inl rfl) (by conv => lhs; whnf) rfl rfl rfl ?_
  refine s_buildSlice (rows' := List.map strV [(⟨#[]⟩ : ByteArray), (⟨#[99, 111, 109]⟩ : ByteArray), (⟨#[101, 120, 46, 99, 111, 109]⟩ : ByteArray), (⟨#[119, 119, 119, 46, 101, 120, 46, 99, 111, 109]⟩ : ByteArray), (⟨#[110, 115, 46, 101, 120, 46, 99, 111, 109]⟩ : ByteArray), (⟨#[111, 114, 103]⟩ : ByteArray), (⟨#[97, 46, 111, 114, 103]⟩ : ByteArray), (⟨#[98, 46, 97, 46, 111, 114, 103]⟩ : ByteArray), (⟨#[110, 115, 49, 46, 111, 114, 103]⟩ : ByteArray), (⟨#[120, 46, 121, 46, 122, 46, 101, 120, 46, 99, 111, 109]⟩ : ByteArray)]) rfl rfl rfl sl108 zc9 rfl rfl rfl rfl rfl rfl rfl rfl rfl ?_
  refine bnd2_elim h fun x1 x2 q3 h => ?_
  refine s_callZ (kb := [(4, 0)]) (ns := [(1000, 0)]) (v := .sc (.string x1)) rfl rfl cl122 (ws_l1Str p0 ([(⟨#[]⟩ : ByteArray), (⟨#[99, 111, 109]⟩ : ByteArray), (⟨#[101, 120, 46, 99, 111, 109]⟩ : ByteArray), (⟨#[119, 119, 119, 46, 101, 120, 46, 99, 111, 109]⟩ : ByteArray), (⟨#[110, 115, 46, 101, 120, 46, 99, 111, 109]⟩ : ByteArray), (⟨#[111, 114, 103]⟩ : ByteArray), (⟨#[97, 46, 111, 114, 103]⟩ : ByteArray), (⟨#[98, 46, 97, 46, 111, 114, 103]⟩ : ByteArray), (⟨#[110, 115, 49, 46, 111, 114, 103]⟩ : ByteArray), (⟨#[120, 46, 121, 46, 122, 46, 101, 120, 46, 99, 111, 109]⟩ : ByteArray)]) x1 x2 q3) rfl (.cons (.ptrOwn rfl) (.cons (lendL rfl (.head _) rfl strV_free strV_len) .nil)) ⟨⟨_, rfl, rfl⟩, trivial⟩ (memCons (allFree_one rfl) memNil) (List.nodup_cons.2 ⟨List.not_mem_nil, .nil⟩) (by decide) ⟨⟨_, rfl, rfl⟩, trivial⟩ rfl trivial (memCons (allFree_one rfl) memNil) rfl rfl rfl rfl rfl rfl ?_
  refine s_mv (.inr rfl) (by conv => lhs; whnf) rfl rfl rfl ?_
  refine rt_nil ?_
  refine tri_ret ?_
  have e0 := (some2 h).1; have e1 := (some2 h).2; subst e0; subst e1
  exact endY [((1000, 0), ⟨115, 3, [[.lst 1 (List.map byteV x2.b), .sc (.int .i64 x2.i), .sc (.int .i64 x2.h)]], false, false⟩, some (1000, 0))] [] (rvC (resTmp rfl) rvN) ⟨⟨rfl, _, rfl, rfl, rfl, rfl, id, rowsCv_one (.cons (.free rfl) (.cons (.free rfl) (.cons (.free rfl) .nil))), rowsZ_one rfl⟩, trivial⟩ trivial rfl rfl (by kernel_rfl) rfl (.free rfl)

/- spec.l1Int -/

set_option maxRecDepth 4000 in
set_option maxHeartbeats 800000 in
theorem ws_l1Int (p0 : Cur) (p1 : List Int) (r0 : Int) (r1 : Cur) (h : s_l1Int p0 p1 = some (r0, r1)) : Runs Tryd.prog 71 [.ptr (1000, 0) 0 0, .lst 1 (List.map intV p1)] [⟨115, 3, [[.lst 1 (List.map byteV p0.b), .sc (.int .i64 p0.i), .sc (.int .i64 p0.h)]], false, false⟩] (.sc (.int .i64 r0)) [⟨115, 3, [[.lst 1 (List.map byteV r1.b), .sc (.int .i64 r1.i), .sc (.int .i64 r1.h)]], false, false⟩] := by
  unfold s_l1Int at h
  refine runsR [.tmp 4] Tryd.func71 rfl rfl rfl rfl ?_
  rw [Tryd.ntmps71]
  refine tri_seq ?_
  refine tri_region ?_
  refine s_mv (.inr rfl) (v := .sc (.int .i64 0)) rfl rfl rfl rfl ?_
  refine rt_nil ?_
  refine tri_seq ?_
  refine tri_region ?_
  refine s_mv (.inl rfl) (by conv => lhs; whnf) rfl rfl rfl ?_
  refine s_mv (.inl rfl) (by conv => lhs; whnf) rfl rfl rfl ?_
  refine s_mv (.inl rfl) (by conv => lhs; whnf) rfl rfl rfl ?_
  refine s_lenL rfl sl96 rfl rfl rfl rfl ?_
  refine bnd2_elim h fun x1 x2 q3 h => ?_
  refine s_callZ (kb := []) (ns := [(1000, 0)]) (v := .sc (.int .i64 x1)) rfl rfl cl61 (ws_l1Below p0 (p1.length : Int) x1 x2 q3) rfl (.cons (.ptrOwn rfl) (.cons (.free rfl) .nil)) ⟨⟨_, rfl, rfl⟩, trivial⟩ (memCons (allFree_one rfl) memNil) (List.nodup_cons.2 ⟨List.not_mem_nil, .nil⟩) memNil trivial rfl trivial (memCons (allFree_one rfl) memNil) rfl rfl rfl rfl rfl rfl ?_
  refine bnd1_elim h fun x4 q5 h => ?_
  have q5a := (idx_some q5).1; have q5b := (idx_some q5).2
  refine s_indexFZ rfl rfl rfl sl96 q5a (get_ltM q5b) rfl rfl rfl ?_
  refine s_loadF rfl rfl (rowG q5b) ty3 rfl (.inr rfl) (by conv => lhs; whnf) rfl rfl rfl ?_
  refine s_mv (.inr rfl) (by conv => lhs; whnf) rfl rfl rfl ?_
  refine rt_nil ?_
  refine tri_ret ?_
  have e0 := (some2 h).1; have e1 := (some2 h).2; subst e0; subst e1
  exact endY [((1000, 0), ⟨115, 3, [[.lst 1 (List.map byteV x2.b), .sc (.int .i64 x2.i), .sc (.int .i64 x2.h)]], false, false⟩, some (1000, 0))] [] (rvC (resTmp rfl) rvN) ⟨⟨rfl, _, rfl, rfl, rfl, rfl, id, rowsCv_one (.cons (.free rfl) (.cons (.free rfl) (.cons (.free rfl) .nil))), rowsZ_one rfl⟩, trivial⟩ trivial rfl rfl (by kernel_rfl) rfl (.free rfl)

/- spec.l5Type -/

set_option maxRecDepth 4000 in
set_option maxHeartbeats 800000 in
theorem ws_l5Type (p0 : Cur) (r0 : Int) (r1 : Cur) (h : s_l5Type p0 = some (r0, r1)) : Runs Tryd.prog 104 [.ptr (1000, 0) 0 0] [⟨115, 3, [[.lst 1 (List.map byteV p0.b), .sc (.int .i64 p0.i), .sc (.int .i64 p0.h)]], false, false⟩] (.sc (.int .i64 r0)) [⟨115, 3, [[.lst 1 (List.map byteV r1.b), .sc (.int .i64 r1.i), .sc (.int .i64 r1.h)]], false, false⟩] := by
  unfold s_l5Type at h
  refine runsR [.tmp 2] Tryd.func104 rfl rfl rfl rfl ?_
  rw [Tryd.ntmps104]
  refine tri_seq ?_
  refine tri_region ?_
  refine s_mv (.inr rfl) (v := .sc (.int .i64 0)) rfl rfl rfl rfl ?_
  refine rt_nil ?_
  refine tri_seq ?_
  refine tri_region ?_
  refine s_mv (.inl rfl) (by conv => lhs; whnf) rfl rfl rfl ?_
  refine s_buildSlice (rows' := List.map intV [1, 1, 1, 2, 2, 5, 6, 16]) rfl rfl rfl sl96 zc3 rfl rfl rfl rfl rfl rfl rfl rfl rfl ?_
  refine bnd2_elim h fun x1 x2 q3 h => ?_
  refine s_callZ (kb := [(4, 0)]) (ns := [(1000, 0)]) (v := .sc (.int .i64 x1)) rfl rfl cl71 (ws_l1Int p0 [1, 1, 1, 2, 2, 5, 6, 16] x1 x2 q3) rfl (.cons (.ptrOwn rfl) (.cons (lendL rfl (.head _) rfl intV_free intV_len) .nil)) ⟨⟨_, rfl, rfl⟩, trivial⟩ (memCons (allFree_one rfl) memNil) (List.nodup_cons.2 ⟨List.not_mem_nil, .nil⟩) (by decide) ⟨⟨_, rfl, rfl⟩, trivial⟩ rfl trivial (memCons (allFree_one rfl) memNil) rfl rfl rfl rfl rfl rfl ?_
  refine s_mv (.inr rfl) (by conv => lhs; whnf) rfl rfl rfl ?_
  refine rt_nil ?_
  refine tri_ret ?_
  have e0 := (some2 h).1; have e1 := (some2 h).2; subst e0; subst e1
  exact endY [((1000, 0), ⟨115, 3, [[.lst 1 (List.map byteV x2.b), .sc (.int .i64 x2.i), .sc (.int .i64 x2.h)]], false, false⟩, some (1000, 0))] [] (rvC (resTmp rfl) rvN) ⟨⟨rfl, _, rfl, rfl, rfl, rfl, id, rowsCv_one (.cons (.free rfl) (.cons (.free rfl) (.cons (.free rfl) .nil))), rowsZ_one rfl⟩, trivial⟩ trivial rfl rfl (by kernel_rfl) rfl (.free rfl)

/- spec.l5Draw -/
def inv_s_l5Draw_0 (x1 : ByteArray) (x4 : Int) (x7 : Int) (x8 : Cur) (j0_0 : Bool) : St := mkT 42 [(0, .ptr (1000, 0) 0 0), (2, .ptr (2, 0) 0 0), (3, .ptr (3, 0) 0 0), (13, .sc (.int .i64 x4)), (20, .sc (.bool j0_0))] [((1000, 0), some ⟨115, 3, [[.lst 1 (List.map byteV x8.b), .sc (.int .i64 x8.i), .sc (.int .i64 x8.h)]], false, false⟩), ((2, 0), some ⟨60, 6, [[.sc (.string (⟨#[]⟩ : ByteArray)), .sc (.int .i64 0), .sc (.int .i64 0), .sc (.int .i64 0), .sc (.string (⟨#[]⟩ : ByteArray)), .sc (.string (⟨#[]⟩ : ByteArray))]], false, true⟩), ((3, 0), some ⟨60, 6, [[.sc (.string x1), .sc (.int .i64 x4), .sc (.int .i64 x7), .sc (.int .i64 0), .sc (.string (⟨#[]⟩ : ByteArray)), .sc (.string (⟨#[]⟩ : ByteArray))]], false, true⟩)]
set_option maxRecDepth 4000 in
set_option maxHeartbeats 800000 in
theorem ws_l5Draw (p0 : Cur) (r0 : Rec) (r1 : Cur) (h : s_l5Draw p0 = some (r0, r1)) : Runs Tryd.prog 107 [.ptr (1000, 0) 0 0] [⟨115, 3, [[.lst 1 (List.map byteV p0.b), .sc (.int .i64 p0.i), .sc (.int .i64 p0.h)]], false, false⟩] (.agg (recV r0)) [⟨115, 3, [[.lst 1 (List.map byteV r1.b), .sc (.int .i64 r1.i), .sc (.int .i64 r1.h)]], false, false⟩] := by
  unfold s_l5Draw at h
  refine runsR [.cell 2 60] Tryd.func107 rfl rfl rfl rfl ?_
  rw [Tryd.ntmps107]
  refine tri_seq ?_
  refine tri_region ?_
  refine s_alloc rfl rfl rfl zc60 rfl rfl rfl rfl rfl ?_
  refine rt_nil ?_
  refine tri_seq ?_
  refine tri_region ?_
  refine s_mv (.inl rfl) (by conv => lhs; whnf) rfl rfl rfl ?_
  refine bnd2_elim h fun x1 x2 q3 h => ?_
  refine s_callZ (kb := []) (ns := [(1000, 0)]) (v := .sc (.string x1)) rfl rfl cl103 (ws_l3Name p0 x1 x2 q3) rfl (.cons (.ptrOwn rfl) .nil) ⟨⟨_, rfl, rfl⟩, trivial⟩ (memCons (allFree_one rfl) memNil) (List.nodup_cons.2 ⟨List.not_mem_nil, .nil⟩) memNil trivial rfl trivial (memCons (allFree_one rfl) memNil) rfl rfl rfl rfl rfl rfl ?_
  refine s_mv (.inl rfl) (by conv => lhs; whnf) rfl rfl rfl ?_
  refine bnd2_elim h fun x4 x5 q6 h => ?_
  refine s_callZ (kb := []) (ns := [(1000, 0)]) (v := .sc (.int .i64 x4)) rfl rfl cl104 (ws_l5Type x2 x4 x5 q6) rfl (.cons (.ptrOwn rfl) .nil) ⟨⟨_, rfl, rfl⟩, trivial⟩ (memCons (allFree_one rfl) memNil) (List.nodup_cons.2 ⟨List.not_mem_nil, .nil⟩) memNil trivial rfl trivial (memCons (allFree_one rfl) memNil) rfl rfl rfl rfl rfl rfl ?_
  refine s_mv (.inl rfl) (by conv => lhs; whnf) rfl rfl rfl ?_
  refine s_buildSlice (rows' := List.map intV [0, 1, 5, 60, 300, 100000]) rfl rfl rfl sl96 zc3 rfl rfl rfl rfl rfl rfl rfl rfl rfl ?_
  refine bnd2_elim h fun x7 x8 q9 h => ?_
  refine s_callZ (kb := [(9, 0)]) (ns := [(1000, 0)]) (v := .sc (.int .i64 x7)) rfl rfl cl71 (ws_l1Int x5 [0, 1, 5, 60, 300, 100000] x7 x8 q9) rfl (.cons (.ptrOwn rfl) (.cons (lendL rfl (.head _) rfl intV_free intV_len) .nil)) ⟨⟨_, rfl, rfl⟩, trivial⟩ (memCons (allFree_one rfl) memNil) (List.nodup_cons.2 ⟨List.not_mem_nil, .nil⟩) (by decide) ⟨⟨_, rfl, rfl⟩, trivial⟩ rfl trivial (memCons (allFree_one rfl) memNil) rfl rfl rfl rfl rfl rfl ?_
  refine s_build (cells' := [.sc (.string x1), .sc (.int .i64 x4), .sc (.int .i64 x7), .sc (.int .i64 0), .sc (.string (⟨#[]⟩ : ByteArray)), .sc (.string (⟨#[]⟩ : ByteArray))]) rfl stc60 rfl rfl rfl rfl rfl rfl rfl ?_
  refine s_alloc rfl rfl rfl zc60 rfl rfl rfl rfl rfl ?_
  refine s_storeB rfl rfl rfl ty60 rfl rfl rfl rfl rfl ?_
  refine rt_nil ?_
  refine tri_seq ?_
  refine tri_seq ?_
  refine tri_region ?_
  refine s_fieldAddr rfl rfl fd60_1 rfl rfl rfl rfl ?_
  refine s_load rfl rfl rfl rfl ty3 rfl (.inr rfl) (by conv => lhs; whnf) rfl rfl rfl ?_
  refine rt_nil ?_
  refine tri_block ?_
  refine tri_seq ?_
  refine tri_region ?_
  refine s_of (st_eqI rfl rfl rfl) rfl rfl rfl rfl ?_
  refine s_mv (.inr rfl) (by conv => lhs; whnf) rfl rfl rfl ?_
  refine rt_nil ?_
  refine tri_cond rfl (fun c10 => ?_) (fun c10 => ?_)
  · replace h := cond_t h c10
    refine tri_region ?_
    refine s_mv (.inl rfl) (by conv => lhs; whnf) rfl rfl rfl ?_
    refine bnd2_elim h fun x11 x12 q13 h => ?_
    refine s_callZ (kb := []) (ns := [(1000, 0)]) (v := .sc (.int .i64 x11)) rfl rfl cl61 (ws_l1Below x8 9 x11 x12 q13) rfl (.cons (.ptrOwn rfl) (.cons (.free rfl) .nil)) ⟨⟨_, rfl, rfl⟩, trivial⟩ (memCons (allFree_one rfl) memNil) (List.nodup_cons.2 ⟨List.not_mem_nil, .nil⟩) memNil trivial rfl trivial (memCons (allFree_one rfl) memNil) rfl rfl rfl rfl rfl rfl ?_
    refine grd_elim h fun g14 h => ?_
    refine s_addI rfl rfl rfl rfl g14 rfl rfl rfl ?_
    refine s_fieldAddr rfl rfl fd60_3 rfl rfl rfl rfl ?_
    refine s_store (rows' := [[.sc (.string x1), .sc (.int .i64 x4), .sc (.int .i64 x7), .sc (.int .i64 (1 + x11)), .sc (.string (⟨#[]⟩ : ByteArray)), .sc (.string (⟨#[]⟩ : ByteArray))]]) rfl rfl rfl rfl ty3 rfl rfl rfl rfl rfl rfl ?_
    refine rt_nil ?_
    refine tri_seq ?_
    refine tri_region ?_
    refine s_loadR rfl rfl rfl rfl ty60 rfl rfl rfl ?_
    refine s_storeB rfl rfl rfl ty60 rfl rfl rfl rfl rfl ?_
    refine rt_nil ?_
    refine tri_ret ?_
    have e0 := (some2 h).1; have e1 := (some2 h).2; subst e0; subst e1
    exact endY [((1000, 0), ⟨115, 3, [[.lst 1 (List.map byteV x12.b), .sc (.int .i64 x12.i), .sc (.int .i64 x12.h)]], false, false⟩, some (1000, 0))] [] (rvC (resCell rfl rfl ty60) rvN) ⟨⟨rfl, _, rfl, rfl, rfl, rfl, id, rowsCv_one (.cons (.free rfl) (.cons (.free rfl) (.cons (.free rfl) .nil))), rowsZ_one rfl⟩, trivial⟩ trivial rfl rfl (by kernel_rfl) rfl (cvAgg rfl)
  · replace h := cond_f h c10
    refine tri_cutI (ι := { p : Bool // s_l5Draw_j0 x1 x4 x7 x8 p = some (r0, r1) }) (fun p => inv_s_l5Draw_0 x1 x4 x7 x8 p.1) ?_ ?_
    · skip
      refine tri_seq ?_
      refine tri_region ?_
      refine s_of (st_eqI rfl rfl rfl) rfl rfl rfl rfl ?_
      refine s_mv (.inr rfl) (by conv => lhs; whnf) rfl rfl rfl ?_
      refine rt_nil ?_
      refine tri_cond rfl (fun c15 => ?_) (fun c15 => ?_)
      · replace h := cond_t h c15
        refine tri_skip ?_
        refine Exists.intro ⟨decide (x4 = 2), h⟩ ?_
        refine entX [((1000, 0), ⟨115, 3, [[.lst 1 (List.map byteV x8.b), .sc (.int .i64 x8.i), .sc (.int .i64 x8.h)]], false, false⟩, some (1000, 0)), ((2, 0), ⟨60, 6, [[.sc (.string (⟨#[]⟩ : ByteArray)), .sc (.int .i64 0), .sc (.int .i64 0), .sc (.int .i64 0), .sc (.string (⟨#[]⟩ : ByteArray)), .sc (.string (⟨#[]⟩ : ByteArray))]], false, true⟩, some (2, 0)), ((3, 0), ⟨60, 6, [[.sc (.string x1), .sc (.int .i64 x4), .sc (.int .i64 x7), .sc (.int .i64 0), .sc (.string (⟨#[]⟩ : ByteArray)), .sc (.string (⟨#[]⟩ : ByteArray))]], false, true⟩, some (3, 0))] [] ⟨⟨rfl, _, rfl, rfl, rfl, rfl, id, rowsCv_one (.cons (.free rfl) (.cons (.free rfl) (.cons (.free rfl) .nil))), rowsZ_one rfl⟩, ⟨rfl, _, rfl, rfl, rfl, rfl, id, rowsCv_one (.cons (.free rfl) (.cons (.free rfl) (.cons (.free rfl) (.cons (.free rfl) (.cons (.free rfl) (.cons (.free rfl) .nil)))))), rowsZ_one rfl⟩, ⟨rfl, _, rfl, rfl, rfl, rfl, id, rowsCv_one (.cons (.free rfl) (.cons (.free rfl) (.cons (.free rfl) (.cons (.free rfl) (.cons (.free rfl) (.cons (.free rfl) .nil)))))), rowsZ_one rfl⟩, trivial⟩ trivial rfl rfl ?_
        exact ⟨(.ptr rfl), (.ptr rfl), (.ptr rfl), (.free rfl), (.free rfl), trivial⟩
      · replace h := cond_f h c15
        refine tri_region ?_
        refine s_of (st_eqI rfl rfl rfl) rfl rfl rfl rfl ?_
        refine s_mv (.inr rfl) (by conv => lhs; whnf) rfl rfl rfl ?_
        refine rt_nil ?_
        refine Exists.intro ⟨decide (x4 = 5), h⟩ ?_
        refine entX [((1000, 0), ⟨115, 3, [[.lst 1 (List.map byteV x8.b), .sc (.int .i64 x8.i), .sc (.int .i64 x8.h)]], false, false⟩, some (1000, 0)), ((2, 0), ⟨60, 6, [[.sc (.string (⟨#[]⟩ : ByteArray)), .sc (.int .i64 0), .sc (.int .i64 0), .sc (.int .i64 0), .sc (.string (⟨#[]⟩ : ByteArray)), .sc (.string (⟨#[]⟩ : ByteArray))]], false, true⟩, some (2, 0)), ((3, 0), ⟨60, 6, [[.sc (.string x1), .sc (.int .i64 x4), .sc (.int .i64 x7), .sc (.int .i64 0), .sc (.string (⟨#[]⟩ : ByteArray)), .sc (.string (⟨#[]⟩ : ByteArray))]], false, true⟩, some (3, 0))] [] ⟨⟨rfl, _, rfl, rfl, rfl, rfl, id, rowsCv_one (.cons (.free rfl) (.cons (.free rfl) (.cons (.free rfl) .nil))), rowsZ_one rfl⟩, ⟨rfl, _, rfl, rfl, rfl, rfl, id, rowsCv_one (.cons (.free rfl) (.cons (.free rfl) (.cons (.free rfl) (.cons (.free rfl) (.cons (.free rfl) (.cons (.free rfl) .nil)))))), rowsZ_one rfl⟩, ⟨rfl, _, rfl, rfl, rfl, rfl, id, rowsCv_one (.cons (.free rfl) (.cons (.free rfl) (.cons (.free rfl) (.cons (.free rfl) (.cons (.free rfl) (.cons (.free rfl) .nil)))))), rowsZ_one rfl⟩, trivial⟩ trivial rfl rfl ?_
        exact ⟨(.ptr rfl), (.ptr rfl), (.ptr rfl), (.free rfl), (.free rfl), trivial⟩
    · rintro ⟨j0_0, h⟩
      replace h : s_l5Draw_j0 x1 x4 x7 x8 j0_0 = some (r0, r1) := h
      unfold s_l5Draw_j0 at h
      show Tri _ _ _ (inv_s_l5Draw_0 x1 x4 x7 x8 j0_0)
      refine tri_cond rfl (fun c15 => ?_) (fun c15 => ?_)
      · replace h := cond_t h c15
        refine tri_region ?_
        refine s_mv (.inl rfl) (by conv => lhs; whnf) rfl rfl rfl ?_
        refine bnd2_elim h fun x16 x17 q18 h => ?_
        refine s_callZ (kb := []) (ns := [(1000, 0)]) (v := .sc (.string x16)) rfl rfl cl103 (ws_l3Name x8 x16 x17 q18) rfl (.cons (.ptrOwn rfl) .nil) ⟨⟨_, rfl, rfl⟩, trivial⟩ (memCons (allFree_one rfl) memNil) (List.nodup_cons.2 ⟨List.not_mem_nil, .nil⟩) memNil trivial rfl trivial (memCons (allFree_one rfl) memNil) rfl rfl rfl rfl rfl rfl ?_
        refine s_fieldAddr rfl rfl fd60_4 rfl rfl rfl rfl ?_
        refine s_store (rows' := [[.sc (.string x1), .sc (.int .i64 x4), .sc (.int .i64 x7), .sc (.int .i64 0), .sc (.string x16), .sc (.string (⟨#[]⟩ : ByteArray))]]) rfl rfl rfl rfl ty9 rfl rfl rfl rfl rfl rfl ?_
        refine rt_nil ?_
        refine tri_seq ?_
        refine tri_region ?_
        refine s_loadR rfl rfl rfl rfl ty60 rfl rfl rfl ?_
        refine s_storeB rfl rfl rfl ty60 rfl rfl rfl rfl rfl ?_
        refine rt_nil ?_
        refine tri_ret ?_
        have e0 := (some2 h).1; have e1 := (some2 h).2; subst e0; subst e1
        exact endY [((1000, 0), ⟨115, 3, [[.lst 1 (List.map byteV x17.b), .sc (.int .i64 x17.i), .sc (.int .i64 x17.h)]], false, false⟩, some (1000, 0))] [] (rvC (resCell rfl rfl ty60) rvN) ⟨⟨rfl, _, rfl, rfl, rfl, rfl, id, rowsCv_one (.cons (.free rfl) (.cons (.free rfl) (.cons (.free rfl) .nil))), rowsZ_one rfl⟩, trivial⟩ trivial rfl rfl (by kernel_rfl) rfl (cvAgg rfl)
      · replace h := cond_f h c15
        refine tri_seq ?_
        refine tri_region ?_
        refine s_of (st_eqI rfl rfl rfl) rfl rfl rfl rfl ?_
        refine s_mv (.inr rfl) (by conv => lhs; whnf) rfl rfl rfl ?_
        refine rt_nil ?_
        refine tri_cond rfl (fun c19 => ?_) (fun c19 => ?_)
        · replace h := cond_t h c19
          refine tri_seq ?_
          refine tri_region ?_
          refine s_mv (.inl rfl) (by conv => lhs; whnf) rfl rfl rfl ?_
          refine bnd2_elim h fun x20 x21 q22 h => ?_
          refine s_callZ (kb := []) (ns := [(1000, 0)]) (v := .sc (.string x20)) rfl rfl cl103 (ws_l3Name x8 x20 x21 q22) rfl (.cons (.ptrOwn rfl) .nil) ⟨⟨_, rfl, rfl⟩, trivial⟩ (memCons (allFree_one rfl) memNil) (List.nodup_cons.2 ⟨List.not_mem_nil, .nil⟩) memNil trivial rfl trivial (memCons (allFree_one rfl) memNil) rfl rfl rfl rfl rfl rfl ?_
          refine s_fieldAddr rfl rfl fd60_4 rfl rfl rfl rfl ?_
          refine s_store (rows' := [[.sc (.string x1), .sc (.int .i64 x4), .sc (.int .i64 x7), .sc (.int .i64 0), .sc (.string x20), .sc (.string (⟨#[]⟩ : ByteArray))]]) rfl rfl rfl rfl ty9 rfl rfl rfl rfl rfl rfl ?_
          refine rt_nil ?_
          refine tri_region ?_
          refine s_mv (.inl rfl) (by conv => lhs; whnf) rfl rfl rfl ?_
          refine s_buildSlice (rows' := List.map intV [0, 5, 60]) rfl rfl rfl sl96 zc3 rfl rfl rfl rfl rfl rfl rfl rfl rfl ?_
          refine bnd2_elim h fun x23 x24 q25 h => ?_
          refine s_callZ (kb := [(32, 0)]) (ns := [(1000, 0)]) (v := .sc (.int .i64 x23)) rfl rfl cl71 (ws_l1Int x21 [0, 5, 60] x23 x24 q25) rfl (.cons (.ptrOwn rfl) (.cons (lendL rfl (.head _) rfl intV_free intV_len) .nil)) ⟨⟨_, rfl, rfl⟩, trivial⟩ (memCons (allFree_one rfl) memNil) (List.nodup_cons.2 ⟨List.not_mem_nil, .nil⟩) (by decide) ⟨⟨_, rfl, rfl⟩, trivial⟩ rfl trivial (memCons (allFree_one rfl) memNil) rfl rfl rfl rfl rfl rfl ?_
          refine s_fieldAddr rfl rfl fd60_3 rfl rfl rfl rfl ?_
          refine s_store (rows' := [[.sc (.string x1), .sc (.int .i64 x4), .sc (.int .i64 x7), .sc (.int .i64 x23), .sc (.string x20), .sc (.string (⟨#[]⟩ : ByteArray))]]) rfl rfl rfl rfl ty3 rfl rfl rfl rfl rfl rfl ?_
          refine rt_nil ?_
          refine tri_seq ?_
          refine tri_region ?_
          refine s_loadR rfl rfl rfl rfl ty60 rfl rfl rfl ?_
          refine s_storeB rfl rfl rfl ty60 rfl rfl rfl rfl rfl ?_
          refine rt_nil ?_
          refine tri_ret ?_
          have e0 := (some2 h).1; have e1 := (some2 h).2; subst e0; subst e1
          exact endY [((1000, 0), ⟨115, 3, [[.lst 1 (List.map byteV x24.b), .sc (.int .i64 x24.i), .sc (.int .i64 x24.h)]], false, false⟩, some (1000, 0))] [] (rvC (resCell rfl rfl ty60) rvN) ⟨⟨rfl, _, rfl, rfl, rfl, rfl, id, rowsCv_one (.cons (.free rfl) (.cons (.free rfl) (.cons (.free rfl) .nil))), rowsZ_one rfl⟩, trivial⟩ trivial rfl rfl (by kernel_rfl) rfl (cvAgg rfl)
        · replace h := cond_f h c19
          refine tri_seq ?_
          refine tri_region ?_
          refine s_of (st_eqI rfl rfl rfl) rfl rfl rfl rfl ?_
          refine s_mv (.inr rfl) (by conv => lhs; whnf) rfl rfl rfl ?_
          refine rt_nil ?_
          refine tri_cond rfl (fun c26 => ?_) (fun c26 => ?_)
          · replace h := cond_t h c26
            refine tri_region ?_
            refine s_mv (.inl rfl) (by conv => lhs; whnf) rfl rfl rfl ?_
            refine s_buildSlice (rows' := List.map strV [(⟨#[]⟩ : ByteArray), (⟨#[104, 105]⟩ : ByteArray), (⟨#[116, 119, 101, 108, 118, 101, 98, 121, 116, 101, 115, 33]⟩ : ByteArray)]) rfl rfl rfl sl108 zc9 rfl rfl rfl rfl rfl rfl rfl rfl rfl ?_
            refine bnd2_elim h fun x27 x28 q29 h => ?_
            refine s_callZ (kb := [(38, 0)]) (ns := [(1000, 0)]) (v := .sc (.string x27)) rfl rfl cl122 (ws_l1Str x8 ([(⟨#[]⟩ : ByteArray), (⟨#[104, 105]⟩ : ByteArray), (⟨#[116, 119, 101, 108, 118, 101, 98, 121, 116, 101, 115, 33]⟩ : ByteArray)]) x27 x28 q29) rfl (.cons (.ptrOwn rfl) (.cons (lendL rfl (.head _) rfl strV_free strV_len) .nil)) ⟨⟨_, rfl, rfl⟩, trivial⟩ (memCons (allFree_one rfl) memNil) (List.nodup_cons.2 ⟨List.not_mem_nil, .nil⟩) (by decide) ⟨⟨_, rfl, rfl⟩, trivial⟩ rfl trivial (memCons (allFree_one rfl) memNil) rfl rfl rfl rfl rfl rfl ?_
            refine s_fieldAddr rfl rfl fd60_5 rfl rfl rfl rfl ?_
            refine s_store (rows' := [[.sc (.string x1), .sc (.int .i64 x4), .sc (.int .i64 x7), .sc (.int .i64 0), .sc (.string (⟨#[]⟩ : ByteArray)), .sc (.string x27)]]) rfl rfl rfl rfl ty9 rfl rfl rfl rfl rfl rfl ?_
            refine rt_nil ?_
            refine tri_seq ?_
            refine tri_region ?_
            refine s_loadR rfl rfl rfl rfl ty60 rfl rfl rfl ?_
            refine s_storeB rfl rfl rfl ty60 rfl rfl rfl rfl rfl ?_
            refine rt_nil ?_
            refine tri_ret ?_
            have e0 := (some2 h).1; have e1 := (some2 h).2; subst e0; subst e1
            exact endY [((1000, 0), ⟨115, 3, [[.lst 1 (List.map byteV x28.b), .sc (.int .i64 x28.i), .sc (.int .i64 x28.h)]], false, false⟩, some (1000, 0))] [] (rvC (resCell rfl rfl ty60) rvN) ⟨⟨rfl, _, rfl, rfl, rfl, rfl, id, rowsCv_one (.cons (.free rfl) (.cons (.free rfl) (.cons (.free rfl) .nil))), rowsZ_one rfl⟩, trivial⟩ trivial rfl rfl (by kernel_rfl) rfl (cvAgg rfl)
          · replace h := cond_f h c26
            refine tri_skip ?_
            refine tri_seq ?_
            refine tri_region ?_
            refine s_loadR rfl rfl rfl rfl ty60 rfl rfl rfl ?_
            refine s_storeB rfl rfl rfl ty60 rfl rfl rfl rfl rfl ?_
            refine rt_nil ?_
            refine tri_ret ?_
            have e0 := (some2 h).1; have e1 := (some2 h).2; subst e0; subst e1
            exact endY [((1000, 0), ⟨115, 3, [[.lst 1 (List.map byteV x8.b), .sc (.int .i64 x8.i), .sc (.int .i64 x8.h)]], false, false⟩, some (1000, 0))] [] (rvC (resCell rfl rfl ty60) rvN) ⟨⟨rfl, _, rfl, rfl, rfl, rfl, id, rowsCv_one (.cons (.free rfl) (.cons (.free rfl) (.cons (.free rfl) .nil))), rowsZ_one rfl⟩, trivial⟩ trivial rfl rfl (by kernel_rfl) rfl (cvAgg rfl)

/- spec.l15Draw -/

set_option maxRecDepth 4000 in
set_option maxHeartbeats 800000 in
theorem ws_l15Draw (p0 : Cur) (r0 : MEntry) (r1 : Cur) (h : s_l15Draw p0 = some (r0, r1)) : Runs Tryd.prog 106 [.ptr (1000, 0) 0 0] [⟨115, 3, [[.lst 1 (List.map byteV p0.b), .sc (.int .i64 p0.i), .sc (.int .i64 p0.h)]], false, false⟩] (.agg [.sc (.string r0.q.name), .sc (.int .i64 r0.q.ty), .sc (.int .i64 r0.kind), .own 60 6 (List.map recV r0.l), .sc (.int .i64 r0.rank), .sc (.int .i64 r0.til)]) [⟨115, 3, [[.lst 1 (List.map byteV r1.b), .sc (.int .i64 r1.i), .sc (.int .i64 r1.h)]], false, false⟩] := by
  unfold s_l15Draw at h
  refine runsR [.cell 2 32] Tryd.func106 rfl rfl rfl rfl ?_
  rw [Tryd.ntmps106]
  refine tri_seq ?_
  refine tri_region ?_
  refine s_alloc rfl rfl rfl zc32 rfl rfl rfl rfl rfl ?_
  refine rt_nil ?_
  refine tri_seq ?_
  refine tri_region ?_
  refine s_mv (.inl rfl) (by conv => lhs; whnf) rfl rfl rfl ?_
  refine bnd2_elim h fun x1 x2 q3 h => ?_
  refine s_callZ (kb := []) (ns := [(1000, 0)]) (v := .agg (recV x1)) rfl rfl cl107 (ws_l5Draw p0 x1 x2 q3) rfl (.cons (.ptrOwn rfl) .nil) ⟨⟨_, rfl, rfl⟩, trivial⟩ (memCons (allFree_one rfl) memNil) (List.nodup_cons.2 ⟨List.not_mem_nil, .nil⟩) memNil trivial rfl trivial (memCons (allFree_one rfl) memNil) rfl rfl rfl rfl rfl rfl ?_
  refine s_alloc rfl rfl rfl zc60 rfl rfl rfl rfl rfl ?_
  refine s_storeB rfl rfl rfl ty60 rfl rfl rfl rfl rfl ?_
  refine rt_nil ?_
  refine tri_seq ?_
  refine tri_draw mixed ?_
  refine s_fieldAddr rfl rfl fd60_0 rfl rfl rfl rfl ?_
  refine s_load rfl rfl rfl rfl ty9 rfl (.inr rfl) (by conv => lhs; whnf) rfl rfl rfl ?_
  refine s_fieldAddr rfl rfl fd60_1 rfl rfl rfl rfl ?_
  refine s_load rfl rfl rfl rfl ty3 rfl (.inr rfl) (by conv => lhs; whnf) rfl rfl rfl ?_
  refine s_build (cells' := [.sc (.string x1.name), .sc (.int .i64 x1.ty)]) rfl stc29 rfl rfl rfl rfl rfl rfl rfl ?_
  refine s_loadR rfl rfl rfl rfl ty60 rfl rfl rfl ?_
  refine s_buildSlice (rows' := List.map recV [x1]) rfl rfl rfl sl30 zc60 rfl rfl rfl rfl rfl rfl rfl rfl rfl ?_
  refine s_mv (.inl rfl) (by conv => lhs; whnf) rfl rfl rfl ?_
  refine bnd2_elim h fun x4 x5 q6 h => ?_
  refine s_callZ (kb := []) (ns := [(1000, 0)]) (v := .sc (.int .i64 x4)) rfl rfl cl61 (ws_l1Below x2 3 x4 x5 q6) rfl (.cons (.ptrOwn rfl) (.cons (.free rfl) .nil)) ⟨⟨_, rfl, rfl⟩, trivial⟩ (memCons (allFree_one rfl) memNil) (List.nodup_cons.2 ⟨List.not_mem_nil, .nil⟩) memNil trivial rfl trivial (memCons (allFree_one rfl) memNil) rfl rfl rfl rfl rfl rfl ?_
  refine grd_elim h fun g7 h => ?_
  refine s_addI rfl rfl rfl rfl g7 rfl rfl rfl ?_
  refine s_mv (.inl rfl) (by conv => lhs; whnf) rfl rfl rfl ?_
  refine bnd2_elim h fun x8 x9 q10 h => ?_
  refine s_callZ (kb := []) (ns := [(1000, 0)]) (v := .sc (.int .i64 x8)) rfl rfl cl61 (ws_l1Below x5 40 x8 x9 q10) rfl (.cons (.ptrOwn rfl) (.cons (.free rfl) .nil)) ⟨⟨_, rfl, rfl⟩, trivial⟩ (memCons (allFree_one rfl) memNil) (List.nodup_cons.2 ⟨List.not_mem_nil, .nil⟩) memNil trivial rfl trivial (memCons (allFree_one rfl) memNil) rfl rfl rfl rfl rfl rfl ?_
  refine s_build (cells' := [.sc (.string x1.name), .sc (.int .i64 x1.ty), .sc (.int .i64 0), .ref (13, 0) 0 1, .sc (.int .i64 (1 + x4)), .sc (.int .i64 x8)]) rfl stc32 rfl rfl rfl rfl rfl rfl rfl ?_
  refine s_alloc rfl rfl rfl zc32 rfl rfl rfl rfl rfl ?_
  refine s_storeB rfl rfl rfl ty32 rfl rfl rfl rfl rfl ?_
  refine rt_nil ⟨by kernel_rfl, ?_⟩
  refine tri_seq ?_
  refine tri_seq ?_
  refine tri_region ?_
  refine s_mv (.inl rfl) (by conv => lhs; whnf) rfl rfl rfl ?_
  refine bnd2_elim h fun x11 x12 q13 h => ?_
  refine s_callZ (kb := []) (ns := [(1000, 0)]) (v := .sc (.int .i64 x11)) rfl rfl cl61 (ws_l1Below x9 4 x11 x12 q13) rfl (.cons (.ptrOwn rfl) (.cons (.free rfl) .nil)) ⟨⟨_, rfl, rfl⟩, trivial⟩ (memCons (allFree_one rfl) memNil) (List.nodup_cons.2 ⟨List.not_mem_nil, .nil⟩) memNil trivial rfl trivial (memCons (allFree_one rfl) memNil) rfl rfl rfl rfl rfl rfl ?_
  refine rt_nil ?_
  refine tri_block ?_
  refine tri_seq ?_
  refine tri_region ?_
  refine s_of (st_eqI rfl rfl rfl) rfl rfl rfl rfl ?_
  refine s_mv (.inr rfl) (by conv => lhs; whnf) rfl rfl rfl ?_
  refine rt_nil ?_
  refine tri_cond rfl (fun c14 => ?_) (fun c14 => ?_)
  · replace h := cond_t h c14
    refine tri_seq ?_
    refine tri_region ?_
    refine s_fieldAddr rfl rfl fd32_1 rfl rfl rfl rfl ?_
    refine s_store (rows' := [[.sc (.string x1.name), .sc (.int .i64 x1.ty), .sc (.int .i64 1), .ref (13, 0) 0 1, .sc (.int .i64 (1 + x4)), .sc (.int .i64 x8)]]) rfl rfl rfl rfl ty3 rfl rfl rfl rfl rfl rfl ?_
    refine rt_nil ?_
    refine tri_region ?_
    refine s_buildSlice (rows' := List.map recV ([] : List Rec)) rfl rfl rfl sl30 zc60 rfl rfl rfl rfl rfl rfl rfl rfl rfl ?_
    refine s_fieldAddr rfl rfl fd32_2 rfl rfl rfl rfl ?_
    refine s_store (rows' := [[.sc (.string x1.name), .sc (.int .i64 x1.ty), .sc (.int .i64 1), .ref (25, 0) 0 0, .sc (.int .i64 (1 + x4)), .sc (.int .i64 x8)]]) rfl rfl rfl rfl ty30 rfl rfl rfl rfl rfl rfl ?_
    refine rt_nil ?_
    refine tri_seq ?_
    refine tri_region ?_
    refine s_loadR rfl rfl rfl rfl ty32 rfl rfl rfl ?_
    refine s_storeB rfl rfl rfl ty32 rfl rfl rfl rfl rfl ?_
    refine rt_nil ?_
    refine tri_ret ?_
    have e0 := (some2 h).1; have e1 := (some2 h).2; subst e0; subst e1
    exact endY (v' := .agg [.sc (.string x1.name), .sc (.int .i64 x1.ty), .sc (.int .i64 1), .ref (2000, 3) 0 (([] : List Rec).length), .sc (.int .i64 (1 + x4)), .sc (.int .i64 x8)]) [((2000, 3), ⟨60, 6, List.map recV ([] : List Rec), false, true⟩, some (25, 0)), ((1000, 0), ⟨115, 3, [[.lst 1 (List.map byteV x12.b), .sc (.int .i64 x12.i), .sc (.int .i64 x12.h)]], false, false⟩, some (1000, 0))] [] (rvC (resCell rfl rfl ty32) rvN) ⟨⟨rfl, _, rfl, rfl, rfl, rfl, id, rowsCv_eq rfl (allFree_map recV_free), rowsZ_map recV_len⟩, ⟨rfl, _, rfl, rfl, rfl, rfl, id, rowsCv_one (.cons (.free rfl) (.cons (.free rfl) (.cons (.free rfl) .nil))), rowsZ_one rfl⟩, trivial⟩ trivial rfl rfl (by kernel_rfl) (by first | (simp only [V.mat, V.mat1, V.mat0, matL, matT, List.length_map]; done) | (simp only [V.mat, V.mat1, V.mat0, matL, matT, List.length_map]; rfl)) (CvL.agg (.cons (.free rfl) (.cons (.free rfl) (.cons (.free rfl) (.cons (.ref rfl) (.cons (.free rfl) (.cons (.free rfl) .nil)))))))
  · replace h := cond_f h c14
    refine tri_seq ?_
    refine tri_region ?_
    refine s_of (st_eqI rfl rfl rfl) rfl rfl rfl rfl ?_
    refine s_mv (.inr rfl) (by conv => lhs; whnf) rfl rfl rfl ?_
    refine rt_nil ?_
    refine tri_cond rfl (fun c15 => ?_) (fun c15 => ?_)
    · replace h := cond_t h c15
      refine tri_seq ?_
      refine tri_region ?_
      refine s_fieldAddr rfl rfl fd32_1 rfl rfl rfl rfl ?_
      refine s_store (rows' := [[.sc (.string x1.name), .sc (.int .i64 x1.ty), .sc (.int .i64 2), .ref (13, 0) 0 1, .sc (.int .i64 (1 + x4)), .sc (.int .i64 x8)]]) rfl rfl rfl rfl ty3 rfl rfl rfl rfl rfl rfl ?_
      refine rt_nil ?_
      refine tri_seq ?_
      refine tri_region ?_
      refine s_fieldAddr rfl rfl fd32_0 rfl rfl rfl rfl ?_
      refine s_fieldAddr rfl rfl fd29_1 rfl rfl rfl rfl ?_
      refine s_store (rows' := [[.sc (.string x1.name), .sc (.int .i64 0), .sc (.int .i64 2), .ref (13, 0) 0 1, .sc (.int .i64 (1 + x4)), .sc (.int .i64 x8)]]) rfl rfl rfl rfl ty3 rfl rfl rfl rfl rfl rfl ?_
      refine rt_nil ?_
      refine tri_region ?_
      refine s_buildSlice (rows' := List.map recV ([] : List Rec)) rfl rfl rfl sl30 zc60 rfl rfl rfl rfl rfl rfl rfl rfl rfl ?_
      refine s_fieldAddr rfl rfl fd32_2 rfl rfl rfl rfl ?_
      refine s_store (rows' := [[.sc (.string x1.name), .sc (.int .i64 0), .sc (.int .i64 2), .ref (32, 0) 0 0, .sc (.int .i64 (1 + x4)), .sc (.int .i64 x8)]]) rfl rfl rfl rfl ty30 rfl rfl rfl rfl rfl rfl ?_
      refine rt_nil ?_
      refine tri_seq ?_
      refine tri_region ?_
      refine s_loadR rfl rfl rfl rfl ty32 rfl rfl rfl ?_
      refine s_storeB rfl rfl rfl ty32 rfl rfl rfl rfl rfl ?_
      refine rt_nil ?_
      refine tri_ret ?_
      have e0 := (some2 h).1; have e1 := (some2 h).2; subst e0; subst e1
      exact endY (v' := .agg [.sc (.string x1.name), .sc (.int .i64 0), .sc (.int .i64 2), .ref (2000, 3) 0 (([] : List Rec).length), .sc (.int .i64 (1 + x4)), .sc (.int .i64 x8)]) [((2000, 3), ⟨60, 6, List.map recV ([] : List Rec), false, true⟩, some (32, 0)), ((1000, 0), ⟨115, 3, [[.lst 1 (List.map byteV x12.b), .sc (.int .i64 x12.i), .sc (.int .i64 x12.h)]], false, false⟩, some (1000, 0))] [] (rvC (resCell rfl rfl ty32) rvN) ⟨⟨rfl, _, rfl, rfl, rfl, rfl, id, rowsCv_eq rfl (allFree_map recV_free), rowsZ_map recV_len⟩, ⟨rfl, _, rfl, rfl, rfl, rfl, id, rowsCv_one (.cons (.free rfl) (.cons (.free rfl) (.cons (.free rfl) .nil))), rowsZ_one rfl⟩, trivial⟩ trivial rfl rfl (by kernel_rfl) (by first | (simp only [V.mat, V.mat1, V.mat0, matL, matT, List.length_map]; done) | (simp only [V.mat, V.mat1, V.mat0, matL, matT, List.length_map]; rfl)) (CvL.agg (.cons (.free rfl) (.cons (.free rfl) (.cons (.free rfl) (.cons (.ref rfl) (.cons (.free rfl) (.cons (.free rfl) .nil)))))))
    · replace h := cond_f h c15
      refine tri_skip ?_
      refine tri_seq ?_
      refine tri_region ?_
      refine s_loadR rfl rfl rfl rfl ty32 rfl rfl rfl ?_
      refine s_storeB rfl rfl rfl ty32 rfl rfl rfl rfl rfl ?_
      refine rt_nil ?_
      refine tri_ret ?_
      have e0 := (some2 h).1; have e1 := (some2 h).2; subst e0; subst e1
      exact endY (v' := .agg [.sc (.string x1.name), .sc (.int .i64 x1.ty), .sc (.int .i64 0), .ref (2000, 3) 0 ([x1].length), .sc (.int .i64 (1 + x4)), .sc (.int .i64 x8)]) [((2000, 3), ⟨60, 6, List.map recV [x1], false, true⟩, some (13, 0)), ((1000, 0), ⟨115, 3, [[.lst 1 (List.map byteV x12.b), .sc (.int .i64 x12.i), .sc (.int .i64 x12.h)]], false, false⟩, some (1000, 0))] [] (rvC (resCell rfl rfl ty32) rvN) ⟨⟨rfl, _, rfl, rfl, rfl, rfl, id, rowsCv_eq rfl (allFree_map recV_free), rowsZ_map recV_len⟩, ⟨rfl, _, rfl, rfl, rfl, rfl, id, rowsCv_one (.cons (.free rfl) (.cons (.free rfl) (.cons (.free rfl) .nil))), rowsZ_one rfl⟩, trivial⟩ trivial rfl rfl (by kernel_rfl) (by first | (simp only [V.mat, V.mat1, V.mat0, matL, matT, List.length_map]; done) | (simp only [V.mat, V.mat1, V.mat0, matL, matT, List.length_map]; rfl)) (CvL.agg (.cons (.free rfl) (.cons (.free rfl) (.cons (.free rfl) (.cons (.ref rfl) (.cons (.free rfl) (.cons (.free rfl) .nil)))))))

/- spec.l7Copy -/

set_option maxRecDepth 4000 in
set_option maxHeartbeats 800000 in
theorem ws_l7Copy (p0 : List Rec) (r0 : List Rec) (h : s_l7Copy p0 = some r0) : Runs Tryd.prog 102 [.lst 6 (List.map recV p0)] [] (.own 60 6 (List.map recV r0)) [] := by
  unfold s_l7Copy at h
  refine runsR [.tmp 2] Tryd.func102 rfl rfl rfl rfl ?_
  rw [Tryd.ntmps102]
  refine tri_seq ?_
  refine tri_region ?_
  refine s_mv (.inr rfl) (v := .nils) rfl rfl rfl rfl ?_
  refine rt_nil ?_
  refine tri_seq ?_
  refine tri_region ?_
  refine s_buildSlice (rows' := List.map recV ([] : List Rec)) rfl rfl rfl sl30 zc60 rfl rfl rfl rfl rfl rfl rfl rfl rfl ?_
  refine s_mv (.inl rfl) (by conv => lhs; whnf) rfl rfl rfl ?_
  refine grd_elim h fun g1 h => ?_
  refine s_appL rfl rfl rfl sl30 zc60 rfl rfl rfl rfl rfl rfl src_lst g1 rfl rfl ?_
  refine s_mv (.inr rfl) (by conv => lhs; whnf) rfl rfl rfl ?_
  refine rt_nil ?_
  refine tri_ret ?_
  have e0 := (some1 h); subst e0
  exact endY (v' := .ref (2000, 0) 0 ((([] : List Rec) ++ p0).length)) [((2000, 0), ⟨60, 6, List.map recV (([] : List Rec) ++ p0), false, true⟩, some (5, 0))] [] (rvC (resTmp rfl) rvN) ⟨⟨rfl, _, rfl, rfl, rfl, rfl, id, rowsCv_eq rfl (allFree_map recV_free), rowsZ_map recV_len⟩, trivial⟩ trivial rfl rfl (by kernel_rfl) (by first | (simp only [V.mat, V.mat1, V.mat0, matL, matT, List.length_map]; done) | (simp only [V.mat, V.mat1, V.mat0, matL, matT, List.length_map]; rfl)) (.ref rfl)

/- spec.l15Entry -/

set_option maxRecDepth 4000 in
set_option maxHeartbeats 800000 in
theorem ws_l15Entry (p0 : MEntry) (r0 : MEntry) (h : s_l15Entry p0 = some r0) : Runs Tryd.prog 66 [.agg (mEntryV p0)] [] (.agg [.sc (.string r0.q.name), .sc (.int .i64 r0.q.ty), .sc (.int .i64 r0.kind), .own 60 6 (List.map recV r0.l), .sc (.int .i64 r0.rank), .sc (.int .i64 r0.til)]) [] := by
  unfold s_l15Entry at h
  refine runsR [.cell 2 32] Tryd.func66 rfl rfl rfl rfl ?_
  rw [Tryd.ntmps66]
  refine tri_seq ?_
  refine tri_region ?_
  refine s_box rfl rfl rfl rfl rfl rfl rfl ?_
  refine s_alloc rfl rfl rfl zc32 rfl rfl rfl rfl rfl ?_
  refine rt_nil ?_
  refine tri_seq ?_
  refine tri_region ?_
  refine s_fieldAddr rfl rfl fd32_2 rfl rfl rfl rfl ?_
  refine s_load rfl rfl rfl rfl ty30 rfl (.inr rfl) (by conv => lhs; whnf) rfl rfl rfl ?_
  refine bnd1_elim h fun x1 q2 h => ?_
  refine s_callN (kb := []) (ns := []) (v := .ref (5, 0) 0 x1.length) rfl rfl cl102 (ws_l7Copy p0.l x1 q2) rfl (.cons (.free rfl) .nil) trivial memNil .nil memNil rfl ⟨(allSc_map recV_sc), trivial⟩ memNil rfl (by first | (simp only [V.mat, V.mat1, V.mat0, matL, matT, List.length_map]; done) | (simp only [V.mat, V.mat1, V.mat0, matL, matT, List.length_map]; rfl)) rfl rfl rfl rfl ?_
  refine s_fieldAddr rfl rfl fd32_2 rfl rfl rfl rfl ?_
  refine s_store (rows' := [[.sc (.string p0.q.name), .sc (.int .i64 p0.q.ty), .sc (.int .i64 p0.kind), .ref (5, 0) 0 x1.length, .sc (.int .i64 p0.rank), .sc (.int .i64 p0.til)]]) rfl rfl rfl rfl ty30 rfl rfl rfl rfl rfl rfl ?_
  refine rt_nil ?_
  refine tri_seq ?_
  refine tri_region ?_
  refine s_loadR rfl rfl rfl rfl ty32 rfl rfl rfl ?_
  refine s_storeB rfl rfl rfl ty32 rfl rfl rfl rfl rfl ?_
  refine rt_nil ?_
  refine tri_ret ?_
  have e0 := (some1 h); subst e0
  exact endY (v' := .agg [.sc (.string p0.q.name), .sc (.int .i64 p0.q.ty), .sc (.int .i64 p0.kind), .ref (2000, 3) 0 x1.length, .sc (.int .i64 p0.rank), .sc (.int .i64 p0.til)]) [((2000, 3), ⟨60, 6, List.map recV x1, false, true⟩, some (5, 0))] [] (rvC (resCell rfl rfl ty32) rvN) ⟨⟨rfl, _, rfl, rfl, rfl, rfl, id, rowsCv_eq rfl (allFree_map recV_free), rowsZ_map recV_len⟩, trivial⟩ trivial rfl rfl (by kernel_rfl) (by first | (simp only [V.mat, V.mat1, V.mat0, matL, matT, List.length_map]; done) | (simp only [V.mat, V.mat1, V.mat0, matL, matT, List.length_map]; rfl)) (CvL.agg (.cons (.free rfl) (.cons (.free rfl) (.cons (.free rfl) (.cons (.ref rfl) (.cons (.free rfl) (.cons (.free rfl) .nil)))))))

/- spec.l15Copy -/
def inv_s_l15Copy_0 (p0 : MCache) (v0_0 : List MEntry) (v0_1 : Nat) : St := mkT 30 [(1, .ptr (1, 0) 0 0), (2, .ptr (2, 0) 0 0), (3, .ptr (3, 0) 0 0), (4, .sc (.int .i64 (v0_1 : Int)))] [((1, 0), some ⟨43, 2, [[.sc (.int .i64 p0.cap), .lst 6 (List.map mEntryV p0.l)]], false, true⟩), ((2, 0), some ⟨43, 2, [[.sc (.int .i64 0), .nils]], false, true⟩), ((3, 0), some ⟨43, 2, [[.sc (.int .i64 p0.cap), .ref (2003, 2) 0 v0_0.length]], false, true⟩), ((2003, 2), some ⟨32, 6, List.map mEntryV v0_0, false, true⟩)]
set_option maxRecDepth 4000 in
set_option maxHeartbeats 800000 in
theorem ws_l15Copy (p0 : MCache) (r0 : MCache) (h : s_l15Copy p0 = some r0) : Runs Tryd.prog 79 [.agg (mCacheV p0)] [] (.agg [.sc (.int .i64 r0.cap), .own 32 6 (List.map mEntryV r0.l)]) [] := by
  unfold s_l15Copy at h
  refine runsR [.cell 2 43] Tryd.func79 rfl rfl rfl rfl ?_
  rw [Tryd.ntmps79]
  refine tri_seq ?_
  refine tri_region ?_
  refine s_box rfl rfl rfl rfl rfl rfl rfl ?_
  refine s_alloc rfl rfl rfl zc43 rfl rfl rfl rfl rfl ?_
  refine rt_nil ?_
  refine tri_seq ?_
  refine tri_region ?_
  refine s_fieldAddr rfl rfl fd43_0 rfl rfl rfl rfl ?_
  refine s_load rfl rfl rfl rfl ty3 rfl (.inr rfl) (by conv => lhs; whnf) rfl rfl rfl ?_
  refine s_buildSlice (rows' := List.map mEntryV ([] : List MEntry)) rfl rfl rfl sl41 zc32 rfl rfl rfl rfl rfl rfl rfl rfl rfl ?_
  refine s_build (cells' := [.sc (.int .i64 p0.cap), .ref (8, 0) 0 0]) rfl stc43 rfl rfl rfl rfl rfl rfl rfl ?_
  refine s_alloc rfl rfl rfl zc43 rfl rfl rfl rfl rfl ?_
  refine s_storeB rfl rfl rfl ty43 rfl rfl rfl rfl rfl ?_
  refine rt_nil ?_
  refine tri_seq ?_
  refine tri_seq ?_
  refine tri_region ?_
  refine s_mv (.inr rfl) (v := .sc (.int .i64 0)) rfl rfl rfl rfl ?_
  refine rt_nil ?_
  refine tri_block ?_
  refine tri_aggM 0 1 rfl rfl (fun hl0 => ?_)
  refine tri_loop (ι := { p : (List MEntry) × (List MEntry) × Nat // p0.l.drop p.2.2 = p.1 ∧ s_l15Copy_l0 p0 p.1 p.2.1 p.2.2 = some r0 }) (fun p => inv_s_l15Copy_0 p0 p.1.2.1 p.1.2.2) (fun p => p.1.1.length) ⟨(p0.l, ([] : List MEntry), 0), rfl, h⟩ ?_ ?_
  · skip
    refine entX [((1, 0), ⟨43, 2, [[.sc (.int .i64 p0.cap), .lst 6 (List.map mEntryV p0.l)]], false, true⟩, some (1, 0)), ((2, 0), ⟨43, 2, [[.sc (.int .i64 0), .nils]], false, true⟩, some (2, 0)), ((3, 0), ⟨43, 2, [[.sc (.int .i64 p0.cap), .ref (2003, 2) 0 ([] : List MEntry).length]], false, true⟩, some (3, 0)), ((2003, 2), ⟨32, 6, List.map mEntryV ([] : List MEntry), false, true⟩, some (8, 0))] [] ⟨⟨rfl, _, rfl, rfl, rfl, rfl, id, rowsCv_one (.cons (.free rfl) (.cons (.free rfl) .nil)), rowsZ_one rfl⟩, ⟨rfl, _, rfl, rfl, rfl, rfl, id, rowsCv_one (.cons (.free rfl) (.cons (.free rfl) .nil)), rowsZ_one rfl⟩, ⟨rfl, _, rfl, rfl, rfl, rfl, id, rowsCv_one (.cons (.free rfl) (.cons (.ref rfl) .nil)), rowsZ_one rfl⟩, ⟨rfl, _, rfl, rfl, rfl, rfl, id, rowsCv_eq rfl (allFree_map mEntryV_free), rowsZ_map mEntryV_len⟩, trivial⟩ trivial rfl rfl ?_
    exact ⟨(.ptr rfl), (.ptr rfl), (.ptr rfl), (.free rfl), trivial⟩
  · rintro ⟨⟨lrs0, v0_0, v0_1⟩, hd0, h⟩
    replace hd0 : p0.l.drop v0_1 = lrs0 := hd0
    replace h : s_l15Copy_l0 p0 lrs0 v0_0 v0_1 = some r0 := h
    show Tri _ _ _ (inv_s_l15Copy_0 p0 v0_0 v0_1)
    refine tri_seq ?_
    refine tri_seq ?_
    refine tri_region ?_
    refine s_mv (.inl rfl) (by conv => lhs; whnf) rfl rfl rfl ?_
    refine s_fieldAddr rfl rfl fd43_1 rfl rfl rfl rfl ?_
    refine s_load rfl rfl rfl rfl ty41 rfl (.inr rfl) (by conv => lhs; whnf) rfl rfl rfl ?_
    refine s_lenL rfl sl41 rfl rfl rfl rfl ?_
    refine s_of (st_lss rfl rfl rfl) rfl rfl rfl rfl ?_
    refine rt_nil ?_
    refine tri_cond rfl (fun c1 => ?_) (fun c1 => ?_)
    · refine drop_elim hd0 c1 fun e0 rs0 he hx0 hn0 => ?_
      subst he
      rw [s_l15Copy_l0] at h
      refine tri_skip ?_
      refine tri_seq ?_
      refine tri_block ?_
      refine tri_seq ?_
      refine tri_region ?_
      refine s_fieldAddr rfl rfl fd43_1 rfl rfl rfl rfl ?_
      refine s_load rfl rfl rfl rfl ty41 rfl (.inr rfl) (by conv => lhs; whnf) rfl rfl rfl ?_
      refine s_mv (.inl rfl) (by conv => lhs; whnf) rfl rfl rfl ?_
      refine s_indexF (i := v0_1) rfl rfl rfl sl41 (get_ltM hx0) rfl rfl rfl ?_
      refine s_loadFR rfl rfl (rowG hx0) ty32 rfl rfl rfl ?_
      refine bnd1_elim h fun x2 q3 h => ?_
      refine s_callNF (kb := []) (ns := []) (v := .agg [.sc (.string x2.q.name), .sc (.int .i64 x2.q.ty), .sc (.int .i64 x2.kind), .ref (22, 3) 0 x2.l.length, .sc (.int .i64 x2.rank), .sc (.int .i64 x2.til)]) (D := [(22, 3)]) rfl rfl cl66 (ws_l15Entry e0 x2 q3) rfl (.cons (relAgg rfl) .nil) trivial memNil .nil memNil rfl ⟨(allSc_map recV_sc), trivial⟩ memNil rfl (by first | (simp only [V.mat, V.mat1, V.mat0, matL, matT, List.length_map]; done) | (simp only [V.mat, V.mat1, V.mat0, matL, matT, List.length_map]; rfl)) rfl ⟨⟨rfl, rfl, _, rfl, rfl⟩, trivial⟩ (relAggL (.cons (.free rfl) (.cons (.free rfl) (.cons (.free rfl) (.cons (lendL rfl (.head _) rfl recV_free recV_len) (.cons (.free rfl) (.cons (.free rfl) .nil))))))) rfl rfl rfl ?_
      refine s_alloc rfl rfl rfl zc32 rfl rfl rfl rfl rfl ?_
      refine s_storeB rfl rfl rfl ty32 rfl rfl rfl rfl rfl ?_
      refine rt_nil ?_
      refine tri_region ?_
      refine s_fieldAddr rfl rfl fd43_1 rfl rfl rfl rfl ?_
      refine s_load rfl rfl rfl rfl ty41 rfl (.inr rfl) (by conv => lhs; whnf) rfl rfl rfl ?_
      refine s_loadR rfl rfl rfl rfl ty32 rfl rfl rfl ?_
      refine s_buildSlice (rows' := List.map mEntryV [x2]) rfl rfl rfl sl41 zc32 rfl rfl rfl rfl rfl rfl rfl rfl rfl ?_
      refine grd_elim h fun g4 h => ?_
      refine s_appL rfl rfl rfl sl41 zc32 rfl rfl rfl rfl rfl rfl (src_refL rfl rfl) g4 rfl rfl ?_
      refine s_fieldAddr rfl rfl fd43_1 rfl rfl rfl rfl ?_
      refine s_store (rows' := [[.sc (.int .i64 p0.cap), .ref (27, 0) 0 ((v0_0 ++ [x2]).length)]]) rfl rfl rfl rfl ty41 rfl rfl rfl rfl rfl rfl ?_
      refine rt_nil ?_
      refine tri_region ?_
      refine s_mv (.inl rfl) (by conv => lhs; whnf) rfl rfl rfl ?_
      refine s_inc (a := v0_1) (b := 1) rfl rfl rfl rfl (by have := get_lt hx0; have := hl0; omega) rfl rfl rfl ?_
      refine s_mv (.inr rfl) (by conv => lhs; whnf) rfl rfl rfl ?_
      refine rt_nil ?_
      refine Exists.intro ⟨(rs0, v0_0 ++ [x2], (v0_1 + 1)), hn0, h⟩ (And.intro (Nat.lt_succ_self _) ?_)
      refine entX [((1, 0), ⟨43, 2, [[.sc (.int .i64 p0.cap), .lst 6 (List.map mEntryV p0.l)]], false, true⟩, some (1, 0)), ((2, 0), ⟨43, 2, [[.sc (.int .i64 0), .nils]], false, true⟩, some (2, 0)), ((3, 0), ⟨43, 2, [[.sc (.int .i64 p0.cap), .ref (2003, 2) 0 (v0_0 ++ [x2]).length]], false, true⟩, some (3, 0)), ((2003, 2), ⟨32, 6, List.map mEntryV (v0_0 ++ [x2]), false, true⟩, some (27, 0))] [] ⟨⟨rfl, _, rfl, rfl, rfl, rfl, id, rowsCv_one (.cons (.free rfl) (.cons (.free rfl) .nil)), rowsZ_one rfl⟩, ⟨rfl, _, rfl, rfl, rfl, rfl, id, rowsCv_one (.cons (.free rfl) (.cons (.free rfl) .nil)), rowsZ_one rfl⟩, ⟨rfl, _, rfl, rfl, rfl, rfl, id, rowsCv_one (.cons (.free rfl) (.cons (.ref rfl) .nil)), rowsZ_one rfl⟩, ⟨rfl, _, rfl, rfl, rfl, rfl, id, rowsCv_eq rfl (allFree_map mEntryV_free), rowsZ_map mEntryV_len⟩, trivial⟩ trivial rfl rfl ?_
      exact ⟨(.ptr rfl), (.ptr rfl), (.ptr rfl), (.free rfl), trivial⟩
    · have he := drop_f hd0 c1; subst he
      rw [s_l15Copy_l0] at h
      refine tri_exit ?_
      refine tri_seq ?_
      refine tri_region ?_
      refine s_loadR rfl rfl rfl rfl ty43 rfl rfl rfl ?_
      refine s_storeB rfl rfl rfl ty43 rfl rfl rfl rfl rfl ?_
      refine rt_nil ?_
      refine tri_ret ?_
      have e0 := (some1 h); subst e0
      exact endY (v' := .agg [.sc (.int .i64 p0.cap), .ref (2000, 1) 0 v0_0.length]) [((2000, 1), ⟨32, 6, List.map mEntryV v0_0, false, true⟩, some (2003, 2))] [] (rvC (resCell rfl rfl ty43) rvN) ⟨⟨rfl, _, rfl, rfl, rfl, rfl, id, rowsCv_eq rfl (allFree_map mEntryV_free), rowsZ_map mEntryV_len⟩, trivial⟩ trivial rfl rfl (by kernel_rfl) (by first | (simp only [V.mat, V.mat1, V.mat0, matL, matT, List.length_map]; done) | (simp only [V.mat, V.mat1, V.mat0, matL, matT, List.length_map]; rfl)) (CvL.agg (.cons (.free rfl) (.cons (.ref rfl) .nil)))

/- spec.Labels -/
def inv_s_Labels_2 (p0 : ByteArray) (v0_0 : List ByteArray) (v0_1 : Int) (v0_2 : Int) (j2_0 : Bool) : St := mkT 37 [(0, .sc (.string p0)), (3, .ref (2003, 0) 0 v0_0.length), (4, .sc (.int .i64 v0_1)), (5, .sc (.int .i64 v0_2)), (26, .sc (.bool j2_0))] [((2003, 0), some ⟨9, 1, List.map strV v0_0, false, true⟩)]
def inv_s_Labels_1 (p0 : ByteArray) (v0_0 : List ByteArray) (v0_1 : Int) (v0_2 : Int) (j1_0 : Bool) : St := mkT 37 [(0, .sc (.string p0)), (3, .ref (2003, 0) 0 v0_0.length), (4, .sc (.int .i64 v0_1)), (5, .sc (.int .i64 v0_2)), (14, .sc (.bool j1_0))] [((2003, 0), some ⟨9, 1, List.map strV v0_0, false, true⟩)]
def inv_s_Labels_0 (p0 : ByteArray) (v0_0 : List ByteArray) (v0_1 : Int) (v0_2 : Int) : St := mkT 37 [(0, .sc (.string p0)), (3, .ref (2003, 0) 0 v0_0.length), (4, .sc (.int .i64 v0_1)), (5, .sc (.int .i64 v0_2))] [((2003, 0), some ⟨9, 1, List.map strV v0_0, false, true⟩)]
set_option maxRecDepth 4000 in
set_option maxHeartbeats 800000 in
theorem ws_Labels (p0 : ByteArray) (r0 : List ByteArray) (h : s_Labels p0 = some r0) : Runs Tryd.prog 88 [.sc (.string p0)] [] (.own 9 1 (List.map strV r0)) [] := by
  unfold s_Labels at h
  refine runsR [.tmp 2] Tryd.func88 rfl rfl rfl rfl ?_
  rw [Tryd.ntmps88]
  refine tri_seq ?_
  refine tri_region ?_
  refine s_mv (.inr rfl) (v := .nils) rfl rfl rfl rfl ?_
  refine rt_nil ?_
  refine tri_seq ?_
  refine tri_region ?_
  refine s_buildSlice (rows' := List.map strV ([] : List ByteArray)) rfl rfl rfl sl108 zc9 rfl rfl rfl rfl rfl rfl rfl rfl rfl ?_
  refine s_mv (.inr rfl) (by conv => lhs; whnf) rfl rfl rfl ?_
  refine rt_nil ?_
  refine tri_seq ?_
  refine tri_region ?_
  refine s_mv (.inr rfl) (v := .sc (.int .i64 0)) rfl rfl rfl rfl ?_
  refine rt_nil ?_
  refine tri_seq ?_
  refine tri_seq ?_
  refine tri_region ?_
  refine s_mv (.inr rfl) (v := .sc (.int .i64 0)) rfl rfl rfl rfl ?_
  refine rt_nil ?_
  refine tri_block ?_
  refine tri_loop (ι := { p : Nat × (List ByteArray) × Int × Int // s_Labels_l0 p0 p.1 p.2.1 p.2.2.1 p.2.2.2 = some r0 }) (fun p => inv_s_Labels_0 p0 p.1.2.1 p.1.2.2.1 p.1.2.2.2) (fun p => p.1.1) ⟨(fuel0, ([] : List ByteArray), 0, 0), h⟩ ?_ ?_
  · skip
    refine entX [((2003, 0), ⟨9, 1, List.map strV ([] : List ByteArray), false, true⟩, some (6, 0))] [] ⟨⟨rfl, _, rfl, rfl, rfl, rfl, id, rowsCv_eq rfl (allFree_map strV_free), rowsZ_map strV_len⟩, trivial⟩ trivial rfl rfl ?_
    exact ⟨(.free rfl), (.ref rfl), (.free rfl), (.free rfl), trivial⟩
  · rintro ⟨⟨f0, v0_0, v0_1, v0_2⟩, h⟩
    replace h : s_Labels_l0 p0 f0 v0_0 v0_1 v0_2 = some r0 := h
    cases f0 with
    | zero => cases h
    | succ f0 =>
    rw [s_Labels_l0] at h
    show Tri _ _ _ (inv_s_Labels_0 p0 v0_0 v0_1 v0_2)
    refine tri_seq ?_
    refine tri_cutI (ι := { p : Bool // s_Labels_j1 p0 v0_0 v0_1 v0_2 (s_Labels_l0 p0 f0) p = some r0 }) (fun p => inv_s_Labels_1 p0 v0_0 v0_1 v0_2 p.1) ?_ ?_
    · skip
      refine tri_region ?_
      refine s_mv (.inl rfl) (by conv => lhs; whnf) rfl rfl rfl ?_
      refine s_mv (.inl rfl) (by conv => lhs; whnf) rfl rfl rfl ?_
      refine s_of (st_lenS rfl rfl iss9) rfl rfl rfl rfl ?_
      refine s_of (st_leq rfl rfl rfl) rfl rfl rfl rfl ?_
      refine s_mv (.inl rfl) (by conv => lhs; whnf) rfl rfl rfl ?_
      refine s_split (t := 11) rfl (fun b1 => ?_) (fun b1 => ?_)
      · replace h := cond_t h b1
        refine s_mv (.inl rfl) (by conv => lhs; whnf) rfl rfl rfl ?_
        refine s_of (st_neS rfl rfl rfl) rfl rfl rfl rfl ?_
        refine s_pickT rfl rfl (by conv => lhs; whnf) rfl rfl rfl ?_
        refine rt_nil ?_
        refine Exists.intro ⟨!decide (p0 = (⟨#[]⟩ : ByteArray)), h⟩ ?_
        refine entX [((2003, 0), ⟨9, 1, List.map strV v0_0, false, true⟩, some (2003, 0))] [] ⟨⟨rfl, _, rfl, rfl, rfl, rfl, id, rowsCv_eq rfl (allFree_map strV_free), rowsZ_map strV_len⟩, trivial⟩ trivial rfl rfl ?_
        exact ⟨(.free rfl), (.ref rfl), (.free rfl), (.free rfl), (.free rfl), trivial⟩
      · replace h := cond_f h b1
        refine s_skip rfl rfl rfl ?_
        refine s_skip rfl rfl rfl ?_
        refine s_pickF rfl rfl (v := .sc (.bool false)) rfl rfl rfl rfl ?_
        refine rt_nil ?_
        refine Exists.intro ⟨false, h⟩ ?_
        refine entX [((2003, 0), ⟨9, 1, List.map strV v0_0, false, true⟩, some (2003, 0))] [] ⟨⟨rfl, _, rfl, rfl, rfl, rfl, id, rowsCv_eq rfl (allFree_map strV_free), rowsZ_map strV_len⟩, trivial⟩ trivial rfl rfl ?_
        exact ⟨(.free rfl), (.ref rfl), (.free rfl), (.free rfl), (.free rfl), trivial⟩
    · rintro ⟨j1_0, h⟩
      replace h : s_Labels_j1 p0 v0_0 v0_1 v0_2 (s_Labels_l0 p0 f0) j1_0 = some r0 := h
      unfold s_Labels_j1 at h
      show Tri _ _ _ (inv_s_Labels_1 p0 v0_0 v0_1 v0_2 j1_0)
      refine tri_cond rfl (fun c1 => ?_) (fun c1 => ?_)
      · replace h := cond_t h c1
        refine tri_skip ?_
        refine tri_seq ?_
        refine tri_block ?_
        refine tri_cutI (ι := { p : Bool // s_Labels_j2 p0 v0_0 v0_1 v0_2 (s_Labels_l0 p0 f0) p = some r0 }) (fun p => inv_s_Labels_2 p0 v0_0 v0_1 v0_2 p.1) ?_ ?_
        · skip
          refine tri_region ?_
          refine s_mv (.inl rfl) (by conv => lhs; whnf) rfl rfl rfl ?_
          refine s_mv (.inl rfl) (by conv => lhs; whnf) rfl rfl rfl ?_
          refine s_of (st_lenS rfl rfl iss9) rfl rfl rfl rfl ?_
          refine s_of (st_eqI rfl rfl rfl) rfl rfl rfl rfl ?_
          refine s_mv (.inl rfl) (by conv => lhs; whnf) rfl rfl rfl ?_
          refine s_split (t := 21) rfl (fun b2 => ?_) (fun b2 => ?_)
          · replace h := cond_t h b2
            refine s_skip rfl rfl rfl ?_
            refine s_skip rfl rfl rfl ?_
            refine s_skip rfl rfl rfl ?_
            refine s_skip rfl rfl rfl ?_
            refine s_pickT rfl rfl (v := .sc (.bool true)) rfl rfl rfl rfl ?_
            refine rt_nil ?_
            refine Exists.intro ⟨true, h⟩ ?_
            refine entX [((2003, 0), ⟨9, 1, List.map strV v0_0, false, true⟩, some (2003, 0))] [] ⟨⟨rfl, _, rfl, rfl, rfl, rfl, id, rowsCv_eq rfl (allFree_map strV_free), rowsZ_map strV_len⟩, trivial⟩ trivial rfl rfl ?_
            exact ⟨(.free rfl), (.ref rfl), (.free rfl), (.free rfl), (.free rfl), trivial⟩
          · replace h := cond_f h b2
            refine s_mv (.inl rfl) (by conv => lhs; whnf) rfl rfl rfl ?_
            refine s_mv (.inl rfl) (by conv => lhs; whnf) rfl rfl rfl ?_
            refine bnd1_elim h fun x3 q4 h => ?_
            refine s_idxS rfl rfl rfl iss9 q4 rfl rfl rfl ?_
            refine s_of (st_eqI rfl rfl rfl) rfl rfl rfl rfl ?_
            refine s_pickF rfl rfl (by conv => lhs; whnf) rfl rfl rfl ?_
            refine rt_nil ?_
            refine Exists.intro ⟨decide (x3 = 46), h⟩ ?_
            refine entX [((2003, 0), ⟨9, 1, List.map strV v0_0, false, true⟩, some (2003, 0))] [] ⟨⟨rfl, _, rfl, rfl, rfl, rfl, id, rowsCv_eq rfl (allFree_map strV_free), rowsZ_map strV_len⟩, trivial⟩ trivial rfl rfl ?_
            exact ⟨(.free rfl), (.ref rfl), (.free rfl), (.free rfl), (.free rfl), trivial⟩
        · rintro ⟨j2_0, h⟩
          replace h : s_Labels_j2 p0 v0_0 v0_1 v0_2 (s_Labels_l0 p0 f0) j2_0 = some r0 := h
          unfold s_Labels_j2 at h
          show Tri _ _ _ (inv_s_Labels_2 p0 v0_0 v0_1 v0_2 j2_0)
          refine tri_cond rfl (fun c2 => ?_) (fun c2 => ?_)
          · replace h := cond_t h c2
            refine tri_seq ?_
            refine tri_region ?_
            refine s_mv (.inl rfl) (by conv => lhs; whnf) rfl rfl rfl ?_
            refine s_mv (.inl rfl) (by conv => lhs; whnf) rfl rfl rfl ?_
            refine s_mv (.inl rfl) (by conv => lhs; whnf) rfl rfl rfl ?_
            refine s_mv (.inl rfl) (by conv => lhs; whnf) rfl rfl rfl ?_
            refine grd_elim h fun g3 h => ?_
            refine s_sliceS (a := v0_1) (b := v0_2) rfl rfl iss9 ⟨_, rfl⟩ ⟨_, rfl⟩ g3 rfl rfl rfl ?_
            refine s_buildSlice (rows' := List.map strV [p0.extract v0_1.toNat v0_2.toNat]) rfl rfl rfl sl108 zc9 rfl rfl rfl rfl rfl rfl rfl rfl rfl ?_
            refine grd_elim h fun g4 h => ?_
            refine s_appL rfl rfl rfl sl108 zc9 rfl rfl rfl rfl rfl rfl (src_refL rfl rfl) g4 rfl rfl ?_
            refine s_mv (.inr rfl) (by conv => lhs; whnf) rfl rfl rfl ?_
            refine rt_nil ?_
            refine tri_region ?_
            refine s_mv (.inl rfl) (by conv => lhs; whnf) rfl rfl rfl ?_
            refine grd_elim h fun g5 h => ?_
            refine s_addI rfl rfl rfl rfl g5 rfl rfl rfl ?_
            refine s_mv (.inr rfl) (by conv => lhs; whnf) rfl rfl rfl ?_
            refine rt_nil ?_
            refine tri_region ?_
            refine s_mv (.inl rfl) (by conv => lhs; whnf) rfl rfl rfl ?_
            refine grd_elim h fun g6 h => ?_
            refine s_addI rfl rfl rfl rfl g6 rfl rfl rfl ?_
            refine s_mv (.inr rfl) (by conv => lhs; whnf) rfl rfl rfl ?_
            refine rt_nil ?_
            refine Exists.intro ⟨(f0, v0_0 ++ [p0.extract v0_1.toNat v0_2.toNat], v0_2 + 1, v0_2 + 1), h⟩ (And.intro (Nat.lt_succ_self _) ?_)
            refine entX [((2003, 0), ⟨9, 1, List.map strV (v0_0 ++ [p0.extract v0_1.toNat v0_2.toNat]), false, true⟩, some (33, 0))] [] ⟨⟨rfl, _, rfl, rfl, rfl, rfl, id, rowsCv_eq rfl (allFree_map strV_free), rowsZ_map strV_len⟩, trivial⟩ trivial rfl rfl ?_
            exact ⟨(.free rfl), (.ref rfl), (.free rfl), (.free rfl), trivial⟩
          · replace h := cond_f h c2
            refine tri_skip ?_
            refine tri_region ?_
            refine s_mv (.inl rfl) (by conv => lhs; whnf) rfl rfl rfl ?_
            refine grd_elim h fun g7 h => ?_
            refine s_addI rfl rfl rfl rfl g7 rfl rfl rfl ?_
            refine s_mv (.inr rfl) (by conv => lhs; whnf) rfl rfl rfl ?_
            refine rt_nil ?_
            refine Exists.intro ⟨(f0, v0_0, v0_1, v0_2 + 1), h⟩ (And.intro (Nat.lt_succ_self _) ?_)
            refine entX [((2003, 0), ⟨9, 1, List.map strV v0_0, false, true⟩, some (2003, 0))] [] ⟨⟨rfl, _, rfl, rfl, rfl, rfl, id, rowsCv_eq rfl (allFree_map strV_free), rowsZ_map strV_len⟩, trivial⟩ trivial rfl rfl ?_
            exact ⟨(.free rfl), (.ref rfl), (.free rfl), (.free rfl), trivial⟩
      · replace h := cond_f h c1
        refine tri_exit ?_
        refine tri_seq ?_
        refine tri_region ?_
        refine s_mv (.inl rfl) (by conv => lhs; whnf) rfl rfl rfl ?_
        refine s_mv (.inr rfl) (by conv => lhs; whnf) rfl rfl rfl ?_
        refine rt_nil ?_
        refine tri_ret ?_
        have e0 := (some1 h); subst e0
        exact endY (v' := .ref (2000, 0) 0 v0_0.length) [((2000, 0), ⟨9, 1, List.map strV v0_0, false, true⟩, some (2003, 0))] [] (rvC (resTmp rfl) rvN) ⟨⟨rfl, _, rfl, rfl, rfl, rfl, id, rowsCv_eq rfl (allFree_map strV_free), rowsZ_map strV_len⟩, trivial⟩ trivial rfl rfl (by kernel_rfl) (by first | (simp only [V.mat, V.mat1, V.mat0, matL, matT, List.length_map]; done) | (simp only [V.mat, V.mat1, V.mat0, matL, matT, List.length_map]; rfl)) (.ref rfl)

/- spec.l2Byte -/

set_option maxRecDepth 4000 in
set_option maxHeartbeats 800000 in
theorem ws_l2Byte (p0 : Int) (r0 : Bool) (h : s_l2Byte p0 = some r0) : Runs Tryd.prog 114 [.sc (.int .u8 p0)] [] (.sc (.bool r0)) [] := by
  unfold s_l2Byte at h
  refine runsR [.tmp 2] Tryd.func114 rfl rfl rfl rfl ?_
  rw [Tryd.ntmps114]
  refine tri_seq ?_
  refine tri_region ?_
  refine s_mv (.inr rfl) (v := .sc (.bool false)) rfl rfl rfl rfl ?_
  refine rt_nil ?_
  refine tri_seq ?_
  refine tri_region ?_
  refine s_mv (.inl rfl) (by conv => lhs; whnf) rfl rfl rfl ?_
  refine s_of (st_conv ik5 ik3 rfl rfl) rfl rfl rfl rfl ?_
  refine bnd1_elim h fun x1 q2 h => ?_
  refine s_callN (kb := []) (ns := []) (v := .sc (.bool x1)) rfl rfl cl41 (ws_l1In (IntKind.i64.wrap p0) 97 122 x1 q2) rfl (.cons (.free rfl) (.cons (.free rfl) (.cons (.free rfl) .nil))) trivial memNil .nil memNil rfl trivial memNil rfl rfl rfl rfl rfl rfl ?_
  refine s_mv (.inl rfl) (by conv => lhs; whnf) rfl rfl rfl ?_
  refine s_split (t := 6) rfl (fun b3 => ?_) (fun b3 => ?_)
  · replace h := cond_t h b3
    refine s_skip rfl rfl rfl ?_
    refine s_skip rfl rfl rfl ?_
    refine s_skip rfl rfl rfl ?_
    refine s_pickT rfl rfl (v := .sc (.bool true)) rfl rfl rfl rfl ?_
    refine s_mv (.inl rfl) (by conv => lhs; whnf) rfl rfl rfl ?_
    refine s_skip rfl rfl rfl ?_
    refine s_skip rfl rfl rfl ?_
    refine s_pickT rfl rfl (v := .sc (.bool true)) rfl rfl rfl rfl ?_
    refine s_mv (.inl rfl) (by conv => lhs; whnf) rfl rfl rfl ?_
    refine s_skip rfl rfl rfl ?_
    refine s_skip rfl rfl rfl ?_
    refine s_pickT rfl rfl (v := .sc (.bool true)) rfl rfl rfl rfl ?_
    refine s_mv (.inr rfl) (by conv => lhs; whnf) rfl rfl rfl ?_
    refine rt_nil ?_
    refine tri_ret ?_
    have e0 := (some1 h); subst e0
    exact endY [] [] (rvC (resTmp rfl) rvN) trivial trivial rfl rfl rfl rfl (.free rfl)
  · replace h := cond_f h b3
    refine s_mv (.inl rfl) (by conv => lhs; whnf) rfl rfl rfl ?_
    refine s_of (st_conv ik5 ik3 rfl rfl) rfl rfl rfl rfl ?_
    refine bnd1_elim h fun x4 q5 h => ?_
    refine s_callN (kb := []) (ns := []) (v := .sc (.bool x4)) rfl rfl cl41 (ws_l1In (IntKind.i64.wrap p0) 48 57 x4 q5) rfl (.cons (.free rfl) (.cons (.free rfl) (.cons (.free rfl) .nil))) trivial memNil .nil memNil rfl trivial memNil rfl rfl rfl rfl rfl rfl ?_
    refine s_pickF rfl rfl (by conv => lhs; whnf) rfl rfl rfl ?_
    refine s_mv (.inl rfl) (by conv => lhs; whnf) rfl rfl rfl ?_
    refine s_split (t := 11) rfl (fun b6 => ?_) (fun b6 => ?_)
    · replace h := cond_t h b6
      refine s_skip rfl rfl rfl ?_
      refine s_skip rfl rfl rfl ?_
      refine s_pickT rfl rfl (v := .sc (.bool true)) rfl rfl rfl rfl ?_
      refine s_mv (.inl rfl) (by conv => lhs; whnf) rfl rfl rfl ?_
      refine s_skip rfl rfl rfl ?_
      refine s_skip rfl rfl rfl ?_
      refine s_pickT rfl rfl (v := .sc (.bool true)) rfl rfl rfl rfl ?_
      refine s_mv (.inr rfl) (by conv => lhs; whnf) rfl rfl rfl ?_
      refine rt_nil ?_
      refine tri_ret ?_
      have e0 := (some1 h); subst e0
      exact endY [] [] (rvC (resTmp rfl) rvN) trivial trivial rfl rfl rfl rfl (.free rfl)
    · replace h := cond_f h b6
      refine s_mv (.inl rfl) (by conv => lhs; whnf) rfl rfl rfl ?_
      refine s_of (st_eqI rfl rfl rfl) rfl rfl rfl rfl ?_
      refine s_pickF rfl rfl (by conv => lhs; whnf) rfl rfl rfl ?_
      refine s_mv (.inl rfl) (by conv => lhs; whnf) rfl rfl rfl ?_
      refine s_split (t := 15) rfl (fun b7 => ?_) (fun b7 => ?_)
      · replace h := cond_t h b7
        refine s_skip rfl rfl rfl ?_
        refine s_skip rfl rfl rfl ?_
        refine s_pickT rfl rfl (v := .sc (.bool true)) rfl rfl rfl rfl ?_
        refine s_mv (.inr rfl) (by conv => lhs; whnf) rfl rfl rfl ?_
        refine rt_nil ?_
        refine tri_ret ?_
        have e0 := (some1 h); subst e0
        exact endY [] [] (rvC (resTmp rfl) rvN) trivial trivial rfl rfl rfl rfl (.free rfl)
      · replace h := cond_f h b7
        refine s_mv (.inl rfl) (by conv => lhs; whnf) rfl rfl rfl ?_
        refine s_of (st_eqI rfl rfl rfl) rfl rfl rfl rfl ?_
        refine s_pickF rfl rfl (by conv => lhs; whnf) rfl rfl rfl ?_
        refine s_mv (.inr rfl) (by conv => lhs; whnf) rfl rfl rfl ?_
        refine rt_nil ?_
        refine tri_ret ?_
        have e0 := (some1 h); subst e0
        exact endY [] [] (rvC (resTmp rfl) rvN) trivial trivial rfl rfl rfl rfl (.free rfl)

/- spec.LabelOk -/
def inv_s_LabelOk_1 (p0 : ByteArray) (v1_0 : Int) : St := mkT 18 [(0, .sc (.string p0)), (3, .sc (.int .i64 v1_0))] []
def inv_s_LabelOk_0 (p0 : ByteArray) : St := mkT 18 [(0, .sc (.string p0))] []
set_option maxRecDepth 4000 in
set_option maxHeartbeats 800000 in
theorem ws_LabelOk (p0 : ByteArray) (r0 : Bool) (h : s_LabelOk p0 = some r0) : Runs Tryd.prog 89 [.sc (.string p0)] [] (.sc (.bool r0)) [] := by
  unfold s_LabelOk at h
  refine runsR [.tmp 2] Tryd.func89 rfl rfl rfl rfl ?_
  rw [Tryd.ntmps89]
  refine tri_seq ?_
  refine tri_region ?_
  refine s_mv (.inr rfl) (v := .sc (.bool false)) rfl rfl rfl rfl ?_
  refine rt_nil ?_
  refine tri_cutI (ι := { p : Unit // s_LabelOk_j0 p0 = some r0 }) (fun p => inv_s_LabelOk_0 p0) ?_ ?_
  · skip
    refine tri_seq ?_
    refine tri_region ?_
    refine s_mv (.inr rfl) (v := .sc (.int .i64 0)) rfl rfl rfl rfl ?_
    refine rt_nil ?_
    refine tri_block ?_
    refine tri_loop (ι := { p : Nat × Int // s_LabelOk_l1 p0 p.1 p.2 = some r0 }) (fun p => inv_s_LabelOk_1 p0 p.1.2) (fun p => p.1.1) ⟨(fuel0, 0), h⟩ ?_ ?_
    · skip
      refine entX [] [] trivial trivial rfl rfl ?_
      exact ⟨(.free rfl), (.free rfl), trivial⟩
    · rintro ⟨⟨f1, v1_0⟩, h⟩
      replace h : s_LabelOk_l1 p0 f1 v1_0 = some r0 := h
      cases f1 with
      | zero => cases h
      | succ f1 =>
      rw [s_LabelOk_l1] at h
      show Tri _ _ _ (inv_s_LabelOk_1 p0 v1_0)
      refine tri_seq ?_
      refine tri_seq ?_
      refine tri_region ?_
      refine s_mv (.inl rfl) (by conv => lhs; whnf) rfl rfl rfl ?_
      refine s_mv (.inl rfl) (by conv => lhs; whnf) rfl rfl rfl ?_
      refine s_of (st_lenS rfl rfl iss9) rfl rfl rfl rfl ?_
      refine s_of (st_lss rfl rfl rfl) rfl rfl rfl rfl ?_
      refine rt_nil ?_
      refine tri_cond rfl (fun c1 => ?_) (fun c1 => ?_)
      · replace h := cond_t h c1
        refine tri_skip ?_
        refine tri_seq ?_
        refine tri_block ?_
        refine tri_seq ?_
        refine tri_region ?_
        refine s_mv (.inl rfl) (by conv => lhs; whnf) rfl rfl rfl ?_
        refine s_mv (.inl rfl) (by conv => lhs; whnf) rfl rfl rfl ?_
        refine bnd1_elim h fun x2 q3 h => ?_
        refine s_idxS rfl rfl rfl iss9 q3 rfl rfl rfl ?_
        refine bnd1_elim h fun x4 q5 h => ?_
        refine s_callN (kb := []) (ns := []) (v := .sc (.bool x4)) rfl rfl cl114 (ws_l2Byte x2 x4 q5) rfl (.cons (.free rfl) .nil) trivial memNil .nil memNil rfl trivial memNil rfl rfl rfl rfl rfl rfl ?_
        refine s_of (st_not rfl rfl) rfl rfl rfl rfl ?_
        refine rt_nil ?_
        refine tri_cond rfl (fun c6 => ?_) (fun c6 => ?_)
        · replace h := cond_t h c6
          refine tri_seq ?_
          refine tri_region ?_
          refine s_mv (.inr rfl) (v := .sc (.bool false)) rfl rfl rfl rfl ?_
          refine rt_nil ?_
          refine tri_ret ?_
          have e0 := (some1 h); subst e0
          exact endY [] [] (rvC (resTmp rfl) rvN) trivial trivial rfl rfl rfl rfl (.free rfl)
        · replace h := cond_f h c6
          refine tri_skip ?_
          refine tri_region ?_
          refine s_mv (.inl rfl) (by conv => lhs; whnf) rfl rfl rfl ?_
          refine grd_elim h fun g7 h => ?_
          refine s_addI rfl rfl rfl rfl g7 rfl rfl rfl ?_
          refine s_mv (.inr rfl) (by conv => lhs; whnf) rfl rfl rfl ?_
          refine rt_nil ?_
          refine Exists.intro ⟨(f1, v1_0 + 1), h⟩ (And.intro (Nat.lt_succ_self _) ?_)
          refine entX [] [] trivial trivial rfl rfl ?_
          exact ⟨(.free rfl), (.free rfl), trivial⟩
      · replace h := cond_f h c1
        refine tri_exit ?_
        refine Exists.intro ⟨(), h⟩ ?_
        refine entX [] [] trivial trivial rfl rfl ?_
        exact ⟨(.free rfl), trivial⟩
  · rintro ⟨u, h⟩
    replace h : s_LabelOk_j0 p0 = some r0 := h
    unfold s_LabelOk_j0 at h
    show Tri _ _ _ (inv_s_LabelOk_0 p0)
    refine tri_seq ?_
    refine tri_region ?_
    refine s_mv (.inl rfl) (by conv => lhs; whnf) rfl rfl rfl ?_
    refine s_of (st_lenS rfl rfl iss9) rfl rfl rfl rfl ?_
    refine bnd1_elim h fun x1 q2 h => ?_
    refine s_callN (kb := []) (ns := []) (v := .sc (.bool x1)) rfl rfl cl41 (ws_l1In (p0.size : Int) 1 12 x1 q2) rfl (.cons (.free rfl) (.cons (.free rfl) (.cons (.free rfl) .nil))) trivial memNil .nil memNil rfl trivial memNil rfl rfl rfl rfl rfl rfl ?_
    refine s_mv (.inr rfl) (by conv => lhs; whnf) rfl rfl rfl ?_
    refine rt_nil ?_
    refine tri_ret ?_
    have e0 := (some1 h); subst e0
    exact endY [] [] (rvC (resTmp rfl) rvN) trivial trivial rfl rfl rfl rfl (.free rfl)

/- spec.NameOk -/
def inv_s_NameOk_1 (p0 : ByteArray) (x1 : List ByteArray) (v1_0 : Nat) : St := mkT 27 [(0, .sc (.string p0)), (3, .ref (6, 0) 0 x1.length), (4, .sc (.int .i64 (v1_0 : Int)))] [((6, 0), some ⟨9, 1, List.map strV x1, false, true⟩)]
def inv_s_NameOk_0 (p0 : ByteArray) (x1 : List ByteArray) : St := mkT 27 [(0, .sc (.string p0)), (3, .ref (6, 0) 0 x1.length)] [((6, 0), some ⟨9, 1, List.map strV x1, false, true⟩)]
set_option maxRecDepth 4000 in
set_option maxHeartbeats 800000 in
theorem ws_NameOk (p0 : ByteArray) (r0 : Bool) (h : s_NameOk p0 = some r0) : Runs Tryd.prog 44 [.sc (.string p0)] [] (.sc (.bool r0)) [] := by
  unfold s_NameOk at h
  refine runsR [.tmp 2] Tryd.func44 rfl rfl rfl rfl ?_
  rw [Tryd.ntmps44]
  refine tri_seq ?_
  refine tri_region ?_
  refine s_mv (.inr rfl) (v := .sc (.bool false)) rfl rfl rfl rfl ?_
  refine rt_nil ?_
  refine tri_seq ?_
  refine tri_region ?_
  refine s_mv (.inl rfl) (by conv => lhs; whnf) rfl rfl rfl ?_
  refine bnd1_elim h fun x1 q2 h => ?_
  refine s_callN (kb := []) (ns := []) (v := .ref (6, 0) 0 x1.length) rfl rfl cl88 (ws_Labels p0 x1 q2) rfl (.cons (.free rfl) .nil) trivial memNil .nil memNil rfl ⟨(allSc_map strV_sc), trivial⟩ memNil rfl (by first | (simp only [V.mat, V.mat1, V.mat0, matL, matT, List.length_map]; done) | (simp only [V.mat, V.mat1, V.mat0, matL, matT, List.length_map]; rfl)) rfl rfl rfl rfl ?_
  refine s_mv (.inr rfl) (by conv => lhs; whnf) rfl rfl rfl ?_
  refine rt_nil ?_
  refine tri_cutI (ι := { p : Unit // s_NameOk_j0 p0 x1 = some r0 }) (fun p => inv_s_NameOk_0 p0 x1) ?_ ?_
  · skip
    refine tri_seq ?_
    refine tri_region ?_
    refine s_mv (.inr rfl) (v := .sc (.int .i64 0)) rfl rfl rfl rfl ?_
    refine rt_nil ?_
    refine tri_block ?_
    refine tri_ownM (6, 0) rfl (fun hl1 => ?_)
    refine tri_loop (ι := { p : (List ByteArray) × Nat // x1.drop p.2 = p.1 ∧ s_NameOk_l1 p0 x1 p.1 p.2 = some r0 }) (fun p => inv_s_NameOk_1 p0 x1 p.1.2) (fun p => p.1.1.length) ⟨(x1, 0), rfl, h⟩ ?_ ?_
    · skip
      refine entX [((6, 0), ⟨9, 1, List.map strV x1, false, true⟩, some (6, 0))] [] ⟨⟨rfl, _, rfl, rfl, rfl, rfl, id, rowsCv_eq rfl (allFree_map strV_free), rowsZ_map strV_len⟩, trivial⟩ trivial rfl rfl ?_
      exact ⟨(.free rfl), (.ref rfl), (.free rfl), trivial⟩
    · rintro ⟨⟨lrs1, v1_0⟩, hd1, h⟩
      replace hd1 : x1.drop v1_0 = lrs1 := hd1
      replace h : s_NameOk_l1 p0 x1 lrs1 v1_0 = some r0 := h
      show Tri _ _ _ (inv_s_NameOk_1 p0 x1 v1_0)
      refine tri_seq ?_
      refine tri_seq ?_
      refine tri_region ?_
      refine s_mv (.inl rfl) (by conv => lhs; whnf) rfl rfl rfl ?_
      refine s_mv (.inl rfl) (by conv => lhs; whnf) rfl rfl rfl ?_
      refine s_len (m := x1.length) rfl sl108 rfl rfl rfl rfl ?_
      refine s_of (st_lss rfl rfl rfl) rfl rfl rfl rfl ?_
      refine rt_nil ?_
      refine tri_cond rfl (fun c3 => ?_) (fun c3 => ?_)
      · refine drop_elim hd1 c3 fun e1 rs1 he hx1 hn1 => ?_
        subst he
        rw [s_NameOk_l1] at h
        refine tri_skip ?_
        refine tri_seq ?_
        refine tri_block ?_
        refine tri_seq ?_
        refine tri_region ?_
        refine s_mv (.inl rfl) (by conv => lhs; whnf) rfl rfl rfl ?_
        refine s_mv (.inl rfl) (by conv => lhs; whnf) rfl rfl rfl ?_
        refine s_index0 (i := v1_0) rfl rfl rfl rfl sl108 rfl (get_lt hx1) rfl rfl rfl ?_
        refine s_load rfl rfl rfl (rowG hx1) ty9 rfl (.inr rfl) (by conv => lhs; whnf) rfl rfl rfl ?_
        refine bnd1_elim h fun x4 q5 h => ?_
        refine s_callN (kb := []) (ns := []) (v := .sc (.bool x4)) rfl rfl cl89 (ws_LabelOk e1 x4 q5) rfl (.cons (.free rfl) .nil) trivial memNil .nil memNil rfl trivial memNil rfl rfl rfl rfl rfl rfl ?_
        refine s_of (st_not rfl rfl) rfl rfl rfl rfl ?_
        refine rt_nil ?_
        refine tri_cond rfl (fun c6 => ?_) (fun c6 => ?_)
        · replace h := cond_t h c6
          refine tri_seq ?_
          refine tri_region ?_
          refine s_mv (.inr rfl) (v := .sc (.bool false)) rfl rfl rfl rfl ?_
          refine rt_nil ?_
          refine tri_ret ?_
          have e0 := (some1 h); subst e0
          exact endY [] [] (rvC (resTmp rfl) rvN) trivial trivial rfl rfl rfl rfl (.free rfl)
        · replace h := cond_f h c6
          refine tri_skip ?_
          refine tri_region ?_
          refine s_mv (.inl rfl) (by conv => lhs; whnf) rfl rfl rfl ?_
          refine s_inc (a := v1_0) (b := 1) rfl rfl rfl rfl (by have := get_lt hx1; have := hl1; omega) rfl rfl rfl ?_
          refine s_mv (.inr rfl) (by conv => lhs; whnf) rfl rfl rfl ?_
          refine rt_nil ?_
          refine Exists.intro ⟨(rs1, (v1_0 + 1)), hn1, h⟩ (And.intro (Nat.lt_succ_self _) ?_)
          refine entX [((6, 0), ⟨9, 1, List.map strV x1, false, true⟩, some (6, 0))] [] ⟨⟨rfl, _, rfl, rfl, rfl, rfl, id, rowsCv_eq rfl (allFree_map strV_free), rowsZ_map strV_len⟩, trivial⟩ trivial rfl rfl ?_
          exact ⟨(.free rfl), (.ref rfl), (.free rfl), trivial⟩
      · have he := drop_f hd1 c3; subst he
        rw [s_NameOk_l1] at h
        refine tri_exit ?_
        refine Exists.intro ⟨(), h⟩ ?_
        refine entX [((6, 0), ⟨9, 1, List.map strV x1, false, true⟩, some (6, 0))] [] ⟨⟨rfl, _, rfl, rfl, rfl, rfl, id, rowsCv_eq rfl (allFree_map strV_free), rowsZ_map strV_len⟩, trivial⟩ trivial rfl rfl ?_
        exact ⟨(.free rfl), (.ref rfl), trivial⟩
  · rintro ⟨u, h⟩
    replace h : s_NameOk_j0 p0 x1 = some r0 := h
    unfold s_NameOk_j0 at h
    show Tri _ _ _ (inv_s_NameOk_0 p0 x1)
    refine tri_seq ?_
    refine tri_region ?_
    refine s_mv (.inl rfl) (by conv => lhs; whnf) rfl rfl rfl ?_
    refine s_of (st_lenS rfl rfl iss9) rfl rfl rfl rfl ?_
    refine s_of (st_leq rfl rfl rfl) rfl rfl rfl rfl ?_
    refine s_mv (.inl rfl) (by conv => lhs; whnf) rfl rfl rfl ?_
    refine s_split (t := 22) rfl (fun b3 => ?_) (fun b3 => ?_)
    · replace h := cond_t h b3
      refine s_mv (.inl rfl) (by conv => lhs; whnf) rfl rfl rfl ?_
      refine s_len (m := x1.length) rfl sl108 rfl rfl rfl rfl ?_
      refine s_of (st_leq rfl rfl rfl) rfl rfl rfl rfl ?_
      refine s_pickT rfl rfl (by conv => lhs; whnf) rfl rfl rfl ?_
      refine s_mv (.inr rfl) (by conv => lhs; whnf) rfl rfl rfl ?_
      refine rt_nil ?_
      refine tri_ret ?_
      have e0 := (some1 h); subst e0
      exact endY [] [] (rvC (resTmp rfl) rvN) trivial trivial rfl rfl rfl rfl (.free rfl)
    · replace h := cond_f h b3
      refine s_skip rfl rfl rfl ?_
      refine s_skip rfl rfl rfl ?_
      refine s_skip rfl rfl rfl ?_
      refine s_pickF rfl rfl (v := .sc (.bool false)) rfl rfl rfl rfl ?_
      refine s_mv (.inr rfl) (by conv => lhs; whnf) rfl rfl rfl ?_
      refine rt_nil ?_
      refine tri_ret ?_
      have e0 := (some1 h); subst e0
      exact endY [] [] (rvC (resTmp rfl) rvN) trivial trivial rfl rfl rfl rfl (.free rfl)

/- spec.TypeOk -/

set_option maxRecDepth 4000 in
set_option maxHeartbeats 800000 in
theorem ws_TypeOk (p0 : Int) (r0 : Bool) (h : s_TypeOk p0 = some r0) : Runs Tryd.prog 86 [.sc (.int .i64 p0)] [] (.sc (.bool r0)) [] := by
  unfold s_TypeOk at h
  refine runsR [.tmp 2] Tryd.func86 rfl rfl rfl rfl ?_
  rw [Tryd.ntmps86]
  refine tri_seq ?_
  refine tri_region ?_
  refine s_mv (.inr rfl) (v := .sc (.bool false)) rfl rfl rfl rfl ?_
  refine rt_nil ?_
  refine tri_seq ?_
  refine tri_region ?_
  refine s_mv (.inl rfl) (by conv => lhs; whnf) rfl rfl rfl ?_
  refine s_of (st_eqI rfl rfl rfl) rfl rfl rfl rfl ?_
  refine s_mv (.inl rfl) (by conv => lhs; whnf) rfl rfl rfl ?_
  refine s_split (t := 5) rfl (fun b1 => ?_) (fun b1 => ?_)
  · replace h := cond_t h b1
    refine s_skip rfl rfl rfl ?_
    refine s_skip rfl rfl rfl ?_
    refine s_pickT rfl rfl (v := .sc (.bool true)) rfl rfl rfl rfl ?_
    refine s_mv (.inl rfl) (by conv => lhs; whnf) rfl rfl rfl ?_
    refine s_skip rfl rfl rfl ?_
    refine s_skip rfl rfl rfl ?_
    refine s_pickT rfl rfl (v := .sc (.bool true)) rfl rfl rfl rfl ?_
    refine s_mv (.inl rfl) (by conv => lhs; whnf) rfl rfl rfl ?_
    refine s_skip rfl rfl rfl ?_
    refine s_skip rfl rfl rfl ?_
    refine s_pickT rfl rfl (v := .sc (.bool true)) rfl rfl rfl rfl ?_
    refine s_mv (.inl rfl) (by conv => lhs; whnf) rfl rfl rfl ?_
    refine s_skip rfl rfl rfl ?_
    refine s_skip rfl rfl rfl ?_
    refine s_pickT rfl rfl (v := .sc (.bool true)) rfl rfl rfl rfl ?_
    refine s_mv (.inr rfl) (by conv => lhs; whnf) rfl rfl rfl ?_
    refine rt_nil ?_
    refine tri_ret ?_
    have e0 := (some1 h); subst e0
    exact endY [] [] (rvC (resTmp rfl) rvN) trivial trivial rfl rfl rfl rfl (.free rfl)
  · replace h := cond_f h b1
    refine s_mv (.inl rfl) (by conv => lhs; whnf) rfl rfl rfl ?_
    refine s_of (st_eqI rfl rfl rfl) rfl rfl rfl rfl ?_
    refine s_pickF rfl rfl (by conv => lhs; whnf) rfl rfl rfl ?_
    refine s_mv (.inl rfl) (by conv => lhs; whnf) rfl rfl rfl ?_
    refine s_split (t := 9) rfl (fun b2 => ?_) (fun b2 => ?_)
    · replace h := cond_t h b2
      refine s_skip rfl rfl rfl ?_
      refine s_skip rfl rfl rfl ?_
      refine s_pickT rfl rfl (v := .sc (.bool true)) rfl rfl rfl rfl ?_
      refine s_mv (.inl rfl) (by conv => lhs; whnf) rfl rfl rfl ?_
      refine s_skip rfl rfl rfl ?_
      refine s_skip rfl rfl rfl ?_
      refine s_pickT rfl rfl (v := .sc (.bool true)) rfl rfl rfl rfl ?_
      refine s_mv (.inl rfl) (by conv => lhs; whnf) rfl rfl rfl ?_
      refine s_skip rfl rfl rfl ?_
      refine s_skip rfl rfl rfl ?_
      refine s_pickT rfl rfl (v := .sc (.bool true)) rfl rfl rfl rfl ?_
      refine s_mv (.inr rfl) (by conv => lhs; whnf) rfl rfl rfl ?_
      refine rt_nil ?_
      refine tri_ret ?_
      have e0 := (some1 h); subst e0
      exact endY [] [] (rvC (resTmp rfl) rvN) trivial trivial rfl rfl rfl rfl (.free rfl)
    · replace h := cond_f h b2
      refine s_mv (.inl rfl) (by conv => lhs; whnf) rfl rfl rfl ?_
      refine s_of (st_eqI rfl rfl rfl) rfl rfl rfl rfl ?_
      refine s_pickF rfl rfl (by conv => lhs; whnf) rfl rfl rfl ?_
      refine s_mv (.inl rfl) (by conv => lhs; whnf) rfl rfl rfl ?_
      refine s_split (t := 13) rfl (fun b3 => ?_) (fun b3 => ?_)
      · replace h := cond_t h b3
        refine s_skip rfl rfl rfl ?_
        refine s_skip rfl rfl rfl ?_
        refine s_pickT rfl rfl (v := .sc (.bool true)) rfl rfl rfl rfl ?_
        refine s_mv (.inl rfl) (by conv => lhs; whnf) rfl rfl rfl ?_
        refine s_skip rfl rfl rfl ?_
        refine s_skip rfl rfl rfl ?_
        refine s_pickT rfl rfl (v := .sc (.bool true)) rfl rfl rfl rfl ?_
        refine s_mv (.inr rfl) (by conv => lhs; whnf) rfl rfl rfl ?_
        refine rt_nil ?_
        refine tri_ret ?_
        have e0 := (some1 h); subst e0
        exact endY [] [] (rvC (resTmp rfl) rvN) trivial trivial rfl rfl rfl rfl (.free rfl)
      · replace h := cond_f h b3
        refine s_mv (.inl rfl) (by conv => lhs; whnf) rfl rfl rfl ?_
        refine s_of (st_eqI rfl rfl rfl) rfl rfl rfl rfl ?_
        refine s_pickF rfl rfl (by conv => lhs; whnf) rfl rfl rfl ?_
        refine s_mv (.inl rfl) (by conv => lhs; whnf) rfl rfl rfl ?_
        refine s_split (t := 17) rfl (fun b4 => ?_) (fun b4 => ?_)
        · replace h := cond_t h b4
          refine s_skip rfl rfl rfl ?_
          refine s_skip rfl rfl rfl ?_
          refine s_pickT rfl rfl (v := .sc (.bool true)) rfl rfl rfl rfl ?_
          refine s_mv (.inr rfl) (by conv => lhs; whnf) rfl rfl rfl ?_
          refine rt_nil ?_
          refine tri_ret ?_
          have e0 := (some1 h); subst e0
          exact endY [] [] (rvC (resTmp rfl) rvN) trivial trivial rfl rfl rfl rfl (.free rfl)
        · replace h := cond_f h b4
          refine s_mv (.inl rfl) (by conv => lhs; whnf) rfl rfl rfl ?_
          refine s_of (st_eqI rfl rfl rfl) rfl rfl rfl rfl ?_
          refine s_pickF rfl rfl (by conv => lhs; whnf) rfl rfl rfl ?_
          refine s_mv (.inr rfl) (by conv => lhs; whnf) rfl rfl rfl ?_
          refine rt_nil ?_
          refine tri_ret ?_
          have e0 := (some1 h); subst e0
          exact endY [] [] (rvC (resTmp rfl) rvN) trivial trivial rfl rfl rfl rfl (.free rfl)

/- spec.QuestOk -/

set_option maxRecDepth 4000 in
set_option maxHeartbeats 800000 in
theorem ws_QuestOk (p0 : Quest) (r0 : Bool) (h : s_QuestOk p0 = some r0) : Runs Tryd.prog 42 [.agg (questV p0)] [] (.sc (.bool r0)) [] := by
  unfold s_QuestOk at h
  refine runsR [.tmp 2] Tryd.func42 rfl rfl rfl rfl ?_
  rw [Tryd.ntmps42]
  refine tri_seq ?_
  refine tri_region ?_
  refine s_box rfl rfl rfl rfl rfl rfl rfl ?_
  refine s_mv (.inr rfl) (v := .sc (.bool false)) rfl rfl rfl rfl ?_
  refine rt_nil ?_
  refine tri_seq ?_
  refine tri_region ?_
  refine s_fieldAddr rfl rfl fd29_0 rfl rfl rfl rfl ?_
  refine s_load rfl rfl rfl rfl ty9 rfl (.inr rfl) (by conv => lhs; whnf) rfl rfl rfl ?_
  refine bnd1_elim h fun x1 q2 h => ?_
  refine s_callN (kb := []) (ns := []) (v := .sc (.bool x1)) rfl rfl cl44 (ws_NameOk p0.name x1 q2) rfl (.cons (.free rfl) .nil) trivial memNil .nil memNil rfl trivial memNil rfl rfl rfl rfl rfl rfl ?_
  refine s_mv (.inl rfl) (by conv => lhs; whnf) rfl rfl rfl ?_
  refine s_split (t := 6) rfl (fun b3 => ?_) (fun b3 => ?_)
  · replace h := cond_t h b3
    refine s_fieldAddr rfl rfl fd29_1 rfl rfl rfl rfl ?_
    refine s_load rfl rfl rfl rfl ty3 rfl (.inr rfl) (by conv => lhs; whnf) rfl rfl rfl ?_
    refine bnd1_elim h fun x4 q5 h => ?_
    refine s_callN (kb := []) (ns := []) (v := .sc (.bool x4)) rfl rfl cl86 (ws_TypeOk p0.ty x4 q5) rfl (.cons (.free rfl) .nil) trivial memNil .nil memNil rfl trivial memNil rfl rfl rfl rfl rfl rfl ?_
    refine s_pickT rfl rfl (by conv => lhs; whnf) rfl rfl rfl ?_
    refine s_mv (.inr rfl) (by conv => lhs; whnf) rfl rfl rfl ?_
    refine rt_nil ?_
    refine tri_ret ?_
    have e0 := (some1 h); subst e0
    exact endY [] [] (rvC (resTmp rfl) rvN) trivial trivial rfl rfl rfl rfl (.free rfl)
  · replace h := cond_f h b3
    refine s_skip rfl rfl rfl ?_
    refine s_skip rfl rfl rfl ?_
    refine s_skip rfl rfl rfl ?_
    refine s_pickF rfl rfl (v := .sc (.bool false)) rfl rfl rfl rfl ?_
    refine s_mv (.inr rfl) (by conv => lhs; whnf) rfl rfl rfl ?_
    refine rt_nil ?_
    refine tri_ret ?_
    have e0 := (some1 h); subst e0
    exact endY [] [] (rvC (resTmp rfl) rvN) trivial trivial rfl rfl rfl rfl (.free rfl)

/- spec.l5Text -/
def inv_s_l5Text_1 (p0 : ByteArray) (v1_0 : Int) : St := mkT 19 [(0, .sc (.string p0)), (3, .sc (.int .i64 v1_0))] []
def inv_s_l5Text_0 (p0 : ByteArray) : St := mkT 19 [(0, .sc (.string p0))] []
set_option maxRecDepth 4000 in
set_option maxHeartbeats 800000 in
theorem ws_l5Text (p0 : ByteArray) (r0 : Bool) (h : s_l5Text p0 = some r0) : Runs Tryd.prog 113 [.sc (.string p0)] [] (.sc (.bool r0)) [] := by
  unfold s_l5Text at h
  refine runsR [.tmp 2] Tryd.func113 rfl rfl rfl rfl ?_
  rw [Tryd.ntmps113]
  refine tri_seq ?_
  refine tri_region ?_
  refine s_mv (.inr rfl) (v := .sc (.bool false)) rfl rfl rfl rfl ?_
  refine rt_nil ?_
  refine tri_cutI (ι := { p : Unit // s_l5Text_j0 p0 = some r0 }) (fun p => inv_s_l5Text_0 p0) ?_ ?_
  · skip
    refine tri_seq ?_
    refine tri_region ?_
    refine s_mv (.inr rfl) (v := .sc (.int .i64 0)) rfl rfl rfl rfl ?_
    refine rt_nil ?_
    refine tri_block ?_
    refine tri_loop (ι := { p : Nat × Int // s_l5Text_l1 p0 p.1 p.2 = some r0 }) (fun p => inv_s_l5Text_1 p0 p.1.2) (fun p => p.1.1) ⟨(fuel0, 0), h⟩ ?_ ?_
    · skip
      refine entX [] [] trivial trivial rfl rfl ?_
      exact ⟨(.free rfl), (.free rfl), trivial⟩
    · rintro ⟨⟨f1, v1_0⟩, h⟩
      replace h : s_l5Text_l1 p0 f1 v1_0 = some r0 := h
      cases f1 with
      | zero => cases h
      | succ f1 =>
      rw [s_l5Text_l1] at h
      show Tri _ _ _ (inv_s_l5Text_1 p0 v1_0)
      refine tri_seq ?_
      refine tri_seq ?_
      refine tri_region ?_
      refine s_mv (.inl rfl) (by conv => lhs; whnf) rfl rfl rfl ?_
      refine s_mv (.inl rfl) (by conv => lhs; whnf) rfl rfl rfl ?_
      refine s_of (st_lenS rfl rfl iss9) rfl rfl rfl rfl ?_
      refine s_of (st_lss rfl rfl rfl) rfl rfl rfl rfl ?_
      refine rt_nil ?_
      refine tri_cond rfl (fun c1 => ?_) (fun c1 => ?_)
      · replace h := cond_t h c1
        refine tri_skip ?_
        refine tri_seq ?_
        refine tri_block ?_
        refine tri_seq ?_
        refine tri_region ?_
        refine s_mv (.inl rfl) (by conv => lhs; whnf) rfl rfl rfl ?_
        refine s_mv (.inl rfl) (by conv => lhs; whnf) rfl rfl rfl ?_
        refine bnd1_elim h fun x2 q3 h => ?_
        refine s_idxS rfl rfl rfl iss9 q3 rfl rfl rfl ?_
        refine s_of (st_conv ik5 ik3 rfl rfl) rfl rfl rfl rfl ?_
        refine bnd1_elim h fun x4 q5 h => ?_
        refine s_callN (kb := []) (ns := []) (v := .sc (.bool x4)) rfl rfl cl41 (ws_l1In (IntKind.i64.wrap x2) 33 126 x4 q5) rfl (.cons (.free rfl) (.cons (.free rfl) (.cons (.free rfl) .nil))) trivial memNil .nil memNil rfl trivial memNil rfl rfl rfl rfl rfl rfl ?_
        refine s_of (st_not rfl rfl) rfl rfl rfl rfl ?_
        refine rt_nil ?_
        refine tri_cond rfl (fun c6 => ?_) (fun c6 => ?_)
        · replace h := cond_t h c6
          refine tri_seq ?_
          refine tri_region ?_
          refine s_mv (.inr rfl) (v := .sc (.bool false)) rfl rfl rfl rfl ?_
          refine rt_nil ?_
          refine tri_ret ?_
          have e0 := (some1 h); subst e0
          exact endY [] [] (rvC (resTmp rfl) rvN) trivial trivial rfl rfl rfl rfl (.free rfl)
        · replace h := cond_f h c6
          refine tri_skip ?_
          refine tri_region ?_
          refine s_mv (.inl rfl) (by conv => lhs; whnf) rfl rfl rfl ?_
          refine grd_elim h fun g7 h => ?_
          refine s_addI rfl rfl rfl rfl g7 rfl rfl rfl ?_
          refine s_mv (.inr rfl) (by conv => lhs; whnf) rfl rfl rfl ?_
          refine rt_nil ?_
          refine Exists.intro ⟨(f1, v1_0 + 1), h⟩ (And.intro (Nat.lt_succ_self _) ?_)
          refine entX [] [] trivial trivial rfl rfl ?_
          exact ⟨(.free rfl), (.free rfl), trivial⟩
      · replace h := cond_f h c1
        refine tri_exit ?_
        refine Exists.intro ⟨(), h⟩ ?_
        refine entX [] [] trivial trivial rfl rfl ?_
        exact ⟨(.free rfl), trivial⟩
  · rintro ⟨u, h⟩
    replace h : s_l5Text_j0 p0 = some r0 := h
    unfold s_l5Text_j0 at h
    show Tri _ _ _ (inv_s_l5Text_0 p0)
    refine tri_seq ?_
    refine tri_region ?_
    refine s_mv (.inl rfl) (by conv => lhs; whnf) rfl rfl rfl ?_
    refine s_of (st_lenS rfl rfl iss9) rfl rfl rfl rfl ?_
    refine s_of (st_leq rfl rfl rfl) rfl rfl rfl rfl ?_
    refine s_mv (.inr rfl) (by conv => lhs; whnf) rfl rfl rfl ?_
    refine rt_nil ?_
    refine tri_ret ?_
    have e0 := (some1 h); subst e0
    exact endY [] [] (rvC (resTmp rfl) rvN) trivial trivial rfl rfl rfl rfl (.free rfl)

/- spec.RecordOk -/
def inv_s_RecordOk_1 (p0 : Rec) (j1_0 : Bool) : St := mkT 79 [(1, .ptr (1, 0) 0 0), (14, .sc (.int .i64 p0.ty)), (30, .sc (.bool j1_0))] [((1, 0), some ⟨60, 6, [[.sc (.string p0.name), .sc (.int .i64 p0.ty), .sc (.int .i64 p0.ttl), .sc (.int .i64 p0.n), .sc (.string p0.host), .sc (.string p0.text)]], false, true⟩)]
def inv_s_RecordOk_0 (p0 : Rec) (j0_0 : Bool) : St := mkT 79 [(1, .ptr (1, 0) 0 0), (12, .sc (.bool j0_0))] [((1, 0), some ⟨60, 6, [[.sc (.string p0.name), .sc (.int .i64 p0.ty), .sc (.int .i64 p0.ttl), .sc (.int .i64 p0.n), .sc (.string p0.host), .sc (.string p0.text)]], false, true⟩)]
set_option maxRecDepth 4000 in
set_option maxHeartbeats 800000 in
theorem ws_RecordOk (p0 : Rec) (r0 : Bool) (h : s_RecordOk p0 = some r0) : Runs Tryd.prog 87 [.agg (recV p0)] [] (.sc (.bool r0)) [] := by
  unfold s_RecordOk at h
  refine runsR [.tmp 2] Tryd.func87 rfl rfl rfl rfl ?_
  rw [Tryd.ntmps87]
  refine tri_seq ?_
  refine tri_region ?_
  refine s_box rfl rfl rfl rfl rfl rfl rfl ?_
  refine s_mv (.inr rfl) (v := .sc (.bool false)) rfl rfl rfl rfl ?_
  refine rt_nil ?_
  refine tri_seq ?_
  refine tri_cutI (ι := { p : Bool // s_RecordOk_j0 p0 p = some r0 }) (fun p => inv_s_RecordOk_0 p0 p.1) ?_ ?_
  · skip
    refine tri_region ?_
    refine s_fieldAddr rfl rfl fd60_0 rfl rfl rfl rfl ?_
    refine s_load rfl rfl rfl rfl ty9 rfl (.inr rfl) (by conv => lhs; whnf) rfl rfl rfl ?_
    refine bnd1_elim h fun x1 q2 h => ?_
    refine s_callN (kb := []) (ns := []) (v := .sc (.bool x1)) rfl rfl cl44 (ws_NameOk p0.name x1 q2) rfl (.cons (.free rfl) .nil) trivial memNil .nil memNil rfl trivial memNil rfl rfl rfl rfl rfl rfl ?_
    refine s_of (st_not rfl rfl) rfl rfl rfl rfl ?_
    refine s_mv (.inl rfl) (by conv => lhs; whnf) rfl rfl rfl ?_
    refine s_split (t := 7) rfl (fun b3 => ?_) (fun b3 => ?_)
    · replace h := cond_t h b3
      refine s_skip rfl rfl rfl ?_
      refine s_skip rfl rfl rfl ?_
      refine s_skip rfl rfl rfl ?_
      refine s_skip rfl rfl rfl ?_
      refine s_pickT rfl rfl (v := .sc (.bool true)) rfl rfl rfl rfl ?_
      refine rt_nil ?_
      refine Exists.intro ⟨true, h⟩ ?_
      refine entX [((1, 0), ⟨60, 6, [[.sc (.string p0.name), .sc (.int .i64 p0.ty), .sc (.int .i64 p0.ttl), .sc (.int .i64 p0.n), .sc (.string p0.host), .sc (.string p0.text)]], false, true⟩, some (1, 0))] [] ⟨⟨rfl, _, rfl, rfl, rfl, rfl, id, rowsCv_one (.cons (.free rfl) (.cons (.free rfl) (.cons (.free rfl) (.cons (.free rfl) (.cons (.free rfl) (.cons (.free rfl) .nil)))))), rowsZ_one rfl⟩, trivial⟩ trivial rfl rfl ?_
      exact ⟨(.ptr rfl), (.free rfl), trivial⟩
    · replace h := cond_f h b3
      refine s_fieldAddr rfl rfl fd60_2 rfl rfl rfl rfl ?_
      refine s_load rfl rfl rfl rfl ty3 rfl (.inr rfl) (by conv => lhs; whnf) rfl rfl rfl ?_
      refine bnd1_elim h fun x4 q5 h => ?_
      refine s_callN (kb := []) (ns := []) (v := .sc (.bool x4)) rfl rfl cl41 (ws_l1In p0.ttl 0 100000 x4 q5) rfl (.cons (.free rfl) (.cons (.free rfl) (.cons (.free rfl) .nil))) trivial memNil .nil memNil rfl trivial memNil rfl rfl rfl rfl rfl rfl ?_
      refine s_of (st_not rfl rfl) rfl rfl rfl rfl ?_
      refine s_pickF rfl rfl (by conv => lhs; whnf) rfl rfl rfl ?_
      refine rt_nil ?_
      refine Exists.intro ⟨!x4, h⟩ ?_
      refine entX [((1, 0), ⟨60, 6, [[.sc (.string p0.name), .sc (.int .i64 p0.ty), .sc (.int .i64 p0.ttl), .sc (.int .i64 p0.n), .sc (.string p0.host), .sc (.string p0.text)]], false, true⟩, some (1, 0))] [] ⟨⟨rfl, _, rfl, rfl, rfl, rfl, id, rowsCv_one (.cons (.free rfl) (.cons (.free rfl) (.cons (.free rfl) (.cons (.free rfl) (.cons (.free rfl) (.cons (.free rfl) .nil)))))), rowsZ_one rfl⟩, trivial⟩ trivial rfl rfl ?_
      exact ⟨(.ptr rfl), (.free rfl), trivial⟩
  · rintro ⟨j0_0, h⟩
    replace h : s_RecordOk_j0 p0 j0_0 = some r0 := h
    unfold s_RecordOk_j0 at h
    show Tri _ _ _ (inv_s_RecordOk_0 p0 j0_0)
    refine tri_cond rfl (fun c1 => ?_) (fun c1 => ?_)
    · replace h := cond_t h c1
      refine tri_seq ?_
      refine tri_region ?_
      refine s_mv (.inr rfl) (v := .sc (.bool false)) rfl rfl rfl rfl ?_
      refine rt_nil ?_
      refine tri_ret ?_
      have e0 := (some1 h); subst e0
      exact endY [] [] (rvC (resTmp rfl) rvN) trivial trivial rfl rfl rfl rfl (.free rfl)
    · replace h := cond_f h c1
      refine tri_skip ?_
      refine tri_seq ?_
      refine tri_seq ?_
      refine tri_region ?_
      refine s_fieldAddr rfl rfl fd60_1 rfl rfl rfl rfl ?_
      refine s_load rfl rfl rfl rfl ty3 rfl (.inr rfl) (by conv => lhs; whnf) rfl rfl rfl ?_
      refine rt_nil ?_
      refine tri_block ?_
      refine tri_seq ?_
      refine tri_region ?_
      refine s_of (st_eqI rfl rfl rfl) rfl rfl rfl rfl ?_
      refine s_mv (.inr rfl) (by conv => lhs; whnf) rfl rfl rfl ?_
      refine rt_nil ?_
      refine tri_cond rfl (fun c2 => ?_) (fun c2 => ?_)
      · replace h := cond_t h c2
        refine tri_seq ?_
        refine tri_region ?_
        refine s_fieldAddr rfl rfl fd60_3 rfl rfl rfl rfl ?_
        refine s_load rfl rfl rfl rfl ty3 rfl (.inr rfl) (by conv => lhs; whnf) rfl rfl rfl ?_
        refine bnd1_elim h fun x3 q4 h => ?_
        refine s_callN (kb := []) (ns := []) (v := .sc (.bool x3)) rfl rfl cl41 (ws_l1In p0.n 0 2147483647 x3 q4) rfl (.cons (.free rfl) (.cons (.free rfl) (.cons (.free rfl) .nil))) trivial memNil .nil memNil rfl trivial memNil rfl rfl rfl rfl rfl rfl ?_
        refine s_mv (.inl rfl) (by conv => lhs; whnf) rfl rfl rfl ?_
        refine s_split (t := 20) rfl (fun b5 => ?_) (fun b5 => ?_)
        · replace h := cond_t h b5
          refine s_fieldAddr rfl rfl fd60_4 rfl rfl rfl rfl ?_
          refine s_load rfl rfl rfl rfl ty9 rfl (.inr rfl) (by conv => lhs; whnf) rfl rfl rfl ?_
          refine s_of (st_eqS rfl rfl rfl) rfl rfl rfl rfl ?_
          refine s_pickT rfl rfl (by conv => lhs; whnf) rfl rfl rfl ?_
          refine s_mv (.inl rfl) (by conv => lhs; whnf) rfl rfl rfl ?_
          refine s_split (t := 25) rfl (fun b6 => ?_) (fun b6 => ?_)
          · replace h := cond_t h b6
            refine s_fieldAddr rfl rfl fd60_5 rfl rfl rfl rfl ?_
            refine s_load rfl rfl rfl rfl ty9 rfl (.inr rfl) (by conv => lhs; whnf) rfl rfl rfl ?_
            refine s_of (st_eqS rfl rfl rfl) rfl rfl rfl rfl ?_
            refine s_pickT rfl rfl (by conv => lhs; whnf) rfl rfl rfl ?_
            refine s_mv (.inr rfl) (by conv => lhs; whnf) rfl rfl rfl ?_
            refine rt_nil ?_
            refine tri_ret ?_
            have e0 := (some1 h); subst e0
            exact endY [] [] (rvC (resTmp rfl) rvN) trivial trivial rfl rfl rfl rfl (.free rfl)
          · replace h := cond_f h b6
            refine s_skip rfl rfl rfl ?_
            refine s_skip rfl rfl rfl ?_
            refine s_skip rfl rfl rfl ?_
            refine s_pickF rfl rfl (v := .sc (.bool false)) rfl rfl rfl rfl ?_
            refine s_mv (.inr rfl) (by conv => lhs; whnf) rfl rfl rfl ?_
            refine rt_nil ?_
            refine tri_ret ?_
            have e0 := (some1 h); subst e0
            exact endY [] [] (rvC (resTmp rfl) rvN) trivial trivial rfl rfl rfl rfl (.free rfl)
        · replace h := cond_f h b5
          refine s_skip rfl rfl rfl ?_
          refine s_skip rfl rfl rfl ?_
          refine s_skip rfl rfl rfl ?_
          refine s_pickF rfl rfl (v := .sc (.bool false)) rfl rfl rfl rfl ?_
          refine s_mv (.inl rfl) (by conv => lhs; whnf) rfl rfl rfl ?_
          refine s_skip rfl rfl rfl ?_
          refine s_skip rfl rfl rfl ?_
          refine s_skip rfl rfl rfl ?_
          refine s_pickF rfl rfl (v := .sc (.bool false)) rfl rfl rfl rfl ?_
          refine s_mv (.inr rfl) (by conv => lhs; whnf) rfl rfl rfl ?_
          refine rt_nil ?_
          refine tri_ret ?_
          have e0 := (some1 h); subst e0
          exact endY [] [] (rvC (resTmp rfl) rvN) trivial trivial rfl rfl rfl rfl (.free rfl)
      · replace h := cond_f h c2
        refine tri_cutI (ι := { p : Bool // s_RecordOk_j1 p0 p = some r0 }) (fun p => inv_s_RecordOk_1 p0 p.1) ?_ ?_
        · skip
          refine tri_seq ?_
          refine tri_region ?_
          refine s_of (st_eqI rfl rfl rfl) rfl rfl rfl rfl ?_
          refine s_mv (.inr rfl) (by conv => lhs; whnf) rfl rfl rfl ?_
          refine rt_nil ?_
          refine tri_cond rfl (fun c7 => ?_) (fun c7 => ?_)
          · replace h := cond_t h c7
            refine tri_skip ?_
            refine Exists.intro ⟨decide (p0.ty = 2), h⟩ ?_
            refine entX [((1, 0), ⟨60, 6, [[.sc (.string p0.name), .sc (.int .i64 p0.ty), .sc (.int .i64 p0.ttl), .sc (.int .i64 p0.n), .sc (.string p0.host), .sc (.string p0.text)]], false, true⟩, some (1, 0))] [] ⟨⟨rfl, _, rfl, rfl, rfl, rfl, id, rowsCv_one (.cons (.free rfl) (.cons (.free rfl) (.cons (.free rfl) (.cons (.free rfl) (.cons (.free rfl) (.cons (.free rfl) .nil)))))), rowsZ_one rfl⟩, trivial⟩ trivial rfl rfl ?_
            exact ⟨(.ptr rfl), (.free rfl), (.free rfl), trivial⟩
          · replace h := cond_f h c7
            refine tri_region ?_
            refine s_of (st_eqI rfl rfl rfl) rfl rfl rfl rfl ?_
            refine s_mv (.inr rfl) (by conv => lhs; whnf) rfl rfl rfl ?_
            refine rt_nil ?_
            refine Exists.intro ⟨decide (p0.ty = 5), h⟩ ?_
            refine entX [((1, 0), ⟨60, 6, [[.sc (.string p0.name), .sc (.int .i64 p0.ty), .sc (.int .i64 p0.ttl), .sc (.int .i64 p0.n), .sc (.string p0.host), .sc (.string p0.text)]], false, true⟩, some (1, 0))] [] ⟨⟨rfl, _, rfl, rfl, rfl, rfl, id, rowsCv_one (.cons (.free rfl) (.cons (.free rfl) (.cons (.free rfl) (.cons (.free rfl) (.cons (.free rfl) (.cons (.free rfl) .nil)))))), rowsZ_one rfl⟩, trivial⟩ trivial rfl rfl ?_
            exact ⟨(.ptr rfl), (.free rfl), (.free rfl), trivial⟩
        · rintro ⟨j1_0, h⟩
          replace h : s_RecordOk_j1 p0 j1_0 = some r0 := h
          unfold s_RecordOk_j1 at h
          show Tri _ _ _ (inv_s_RecordOk_1 p0 j1_0)
          refine tri_cond rfl (fun c7 => ?_) (fun c7 => ?_)
          · replace h := cond_t h c7
            refine tri_seq ?_
            refine tri_region ?_
            refine s_fieldAddr rfl rfl fd60_3 rfl rfl rfl rfl ?_
            refine s_load rfl rfl rfl rfl ty3 rfl (.inr rfl) (by conv => lhs; whnf) rfl rfl rfl ?_
            refine s_of (st_eqI rfl rfl rfl) rfl rfl rfl rfl ?_
            refine s_mv (.inl rfl) (by conv => lhs; whnf) rfl rfl rfl ?_
            refine s_split (t := 36) rfl (fun b8 => ?_) (fun b8 => ?_)
            · replace h := cond_t h b8
              refine s_fieldAddr rfl rfl fd60_4 rfl rfl rfl rfl ?_
              refine s_load rfl rfl rfl rfl ty9 rfl (.inr rfl) (by conv => lhs; whnf) rfl rfl rfl ?_
              refine bnd1_elim h fun x9 q10 h => ?_
              refine s_callN (kb := []) (ns := []) (v := .sc (.bool x9)) rfl rfl cl44 (ws_NameOk p0.host x9 q10) rfl (.cons (.free rfl) .nil) trivial memNil .nil memNil rfl trivial memNil rfl rfl rfl rfl rfl rfl ?_
              refine s_pickT rfl rfl (by conv => lhs; whnf) rfl rfl rfl ?_
              refine s_mv (.inl rfl) (by conv => lhs; whnf) rfl rfl rfl ?_
              refine s_split (t := 41) rfl (fun b11 => ?_) (fun b11 => ?_)
              · replace h := cond_t h b11
                refine s_fieldAddr rfl rfl fd60_5 rfl rfl rfl rfl ?_
                refine s_load rfl rfl rfl rfl ty9 rfl (.inr rfl) (by conv => lhs; whnf) rfl rfl rfl ?_
                refine s_of (st_eqS rfl rfl rfl) rfl rfl rfl rfl ?_
                refine s_pickT rfl rfl (by conv => lhs; whnf) rfl rfl rfl ?_
                refine s_mv (.inr rfl) (by conv => lhs; whnf) rfl rfl rfl ?_
                refine rt_nil ?_
                refine tri_ret ?_
                have e0 := (some1 h); subst e0
                exact endY [] [] (rvC (resTmp rfl) rvN) trivial trivial rfl rfl rfl rfl (.free rfl)
              · replace h := cond_f h b11
                refine s_skip rfl rfl rfl ?_
                refine s_skip rfl rfl rfl ?_
                refine s_skip rfl rfl rfl ?_
                refine s_pickF rfl rfl (v := .sc (.bool false)) rfl rfl rfl rfl ?_
                refine s_mv (.inr rfl) (by conv => lhs; whnf) rfl rfl rfl ?_
                refine rt_nil ?_
                refine tri_ret ?_
                have e0 := (some1 h); subst e0
                exact endY [] [] (rvC (resTmp rfl) rvN) trivial trivial rfl rfl rfl rfl (.free rfl)
            · replace h := cond_f h b8
              refine s_skip rfl rfl rfl ?_
              refine s_skip rfl rfl rfl ?_
              refine s_skip rfl rfl rfl ?_
              refine s_pickF rfl rfl (v := .sc (.bool false)) rfl rfl rfl rfl ?_
              refine s_mv (.inl rfl) (by conv => lhs; whnf) rfl rfl rfl ?_
              refine s_skip rfl rfl rfl ?_
              refine s_skip rfl rfl rfl ?_
              refine s_skip rfl rfl rfl ?_
              refine s_pickF rfl rfl (v := .sc (.bool false)) rfl rfl rfl rfl ?_
              refine s_mv (.inr rfl) (by conv => lhs; whnf) rfl rfl rfl ?_
              refine rt_nil ?_
              refine tri_ret ?_
              have e0 := (some1 h); subst e0
              exact endY [] [] (rvC (resTmp rfl) rvN) trivial trivial rfl rfl rfl rfl (.free rfl)
          · replace h := cond_f h c7
            refine tri_seq ?_
            refine tri_region ?_
            refine s_of (st_eqI rfl rfl rfl) rfl rfl rfl rfl ?_
            refine s_mv (.inr rfl) (by conv => lhs; whnf) rfl rfl rfl ?_
            refine rt_nil ?_
            refine tri_cond rfl (fun c12 => ?_) (fun c12 => ?_)
            · replace h := cond_t h c12
              refine tri_seq ?_
              refine tri_region ?_
              refine s_fieldAddr rfl rfl fd60_3 rfl rfl rfl rfl ?_
              refine s_load rfl rfl rfl rfl ty3 rfl (.inr rfl) (by conv => lhs; whnf) rfl rfl rfl ?_
              refine bnd1_elim h fun x13 q14 h => ?_
              refine s_callN (kb := []) (ns := []) (v := .sc (.bool x13)) rfl rfl cl41 (ws_l1In p0.n 0 100000 x13 q14) rfl (.cons (.free rfl) (.cons (.free rfl) (.cons (.free rfl) .nil))) trivial memNil .nil memNil rfl trivial memNil rfl rfl rfl rfl rfl rfl ?_
              refine s_mv (.inl rfl) (by conv => lhs; whnf) rfl rfl rfl ?_
              refine s_split (t := 51) rfl (fun b15 => ?_) (fun b15 => ?_)
              · replace h := cond_t h b15
                refine s_fieldAddr rfl rfl fd60_4 rfl rfl rfl rfl ?_
                refine s_load rfl rfl rfl rfl ty9 rfl (.inr rfl) (by conv => lhs; whnf) rfl rfl rfl ?_
                refine bnd1_elim h fun x16 q17 h => ?_
                refine s_callN (kb := []) (ns := []) (v := .sc (.bool x16)) rfl rfl cl44 (ws_NameOk p0.host x16 q17) rfl (.cons (.free rfl) .nil) trivial memNil .nil memNil rfl trivial memNil rfl rfl rfl rfl rfl rfl ?_
                refine s_pickT rfl rfl (by conv => lhs; whnf) rfl rfl rfl ?_
                refine s_mv (.inl rfl) (by conv => lhs; whnf) rfl rfl rfl ?_
                refine s_split (t := 56) rfl (fun b18 => ?_) (fun b18 => ?_)
                · replace h := cond_t h b18
                  refine s_fieldAddr rfl rfl fd60_5 rfl rfl rfl rfl ?_
                  refine s_load rfl rfl rfl rfl ty9 rfl (.inr rfl) (by conv => lhs; whnf) rfl rfl rfl ?_
                  refine s_of (st_eqS rfl rfl rfl) rfl rfl rfl rfl ?_
                  refine s_pickT rfl rfl (by conv => lhs; whnf) rfl rfl rfl ?_
                  refine s_mv (.inr rfl) (by conv => lhs; whnf) rfl rfl rfl ?_
                  refine rt_nil ?_
                  refine tri_ret ?_
                  have e0 := (some1 h); subst e0
                  exact endY [] [] (rvC (resTmp rfl) rvN) trivial trivial rfl rfl rfl rfl (.free rfl)
                · replace h := cond_f h b18
                  refine s_skip rfl rfl rfl ?_
                  refine s_skip rfl rfl rfl ?_
                  refine s_skip rfl rfl rfl ?_
                  refine s_pickF rfl rfl (v := .sc (.bool false)) rfl rfl rfl rfl ?_
                  refine s_mv (.inr rfl) (by conv => lhs; whnf) rfl rfl rfl ?_
                  refine rt_nil ?_
                  refine tri_ret ?_
                  have e0 := (some1 h); subst e0
                  exact endY [] [] (rvC (resTmp rfl) rvN) trivial trivial rfl rfl rfl rfl (.free rfl)
              · replace h := cond_f h b15
                refine s_skip rfl rfl rfl ?_
                refine s_skip rfl rfl rfl ?_
                refine s_skip rfl rfl rfl ?_
                refine s_pickF rfl rfl (v := .sc (.bool false)) rfl rfl rfl rfl ?_
                refine s_mv (.inl rfl) (by conv => lhs; whnf) rfl rfl rfl ?_
                refine s_skip rfl rfl rfl ?_
                refine s_skip rfl rfl rfl ?_
                refine s_skip rfl rfl rfl ?_
                refine s_pickF rfl rfl (v := .sc (.bool false)) rfl rfl rfl rfl ?_
                refine s_mv (.inr rfl) (by conv => lhs; whnf) rfl rfl rfl ?_
                refine rt_nil ?_
                refine tri_ret ?_
                have e0 := (some1 h); subst e0
                exact endY [] [] (rvC (resTmp rfl) rvN) trivial trivial rfl rfl rfl rfl (.free rfl)
            · replace h := cond_f h c12
              refine tri_skip ?_
              refine tri_seq ?_
              refine tri_region ?_
              refine s_fieldAddr rfl rfl fd60_1 rfl rfl rfl rfl ?_
              refine s_load rfl rfl rfl rfl ty3 rfl (.inr rfl) (by conv => lhs; whnf) rfl rfl rfl ?_
              refine s_of (st_eqI rfl rfl rfl) rfl rfl rfl rfl ?_
              refine s_mv (.inl rfl) (by conv => lhs; whnf) rfl rfl rfl ?_
              refine s_split (t := 64) rfl (fun b19 => ?_) (fun b19 => ?_)
              · replace h := cond_t h b19
                refine s_fieldAddr rfl rfl fd60_3 rfl rfl rfl rfl ?_
                refine s_load rfl rfl rfl rfl ty3 rfl (.inr rfl) (by conv => lhs; whnf) rfl rfl rfl ?_
                refine s_of (st_eqI rfl rfl rfl) rfl rfl rfl rfl ?_
                refine s_pickT rfl rfl (by conv => lhs; whnf) rfl rfl rfl ?_
                refine s_mv (.inl rfl) (by conv => lhs; whnf) rfl rfl rfl ?_
                refine s_split (t := 69) rfl (fun b20 => ?_) (fun b20 => ?_)
                · replace h := cond_t h b20
                  refine s_fieldAddr rfl rfl fd60_4 rfl rfl rfl rfl ?_
                  refine s_load rfl rfl rfl rfl ty9 rfl (.inr rfl) (by conv => lhs; whnf) rfl rfl rfl ?_
                  refine s_of (st_eqS rfl rfl rfl) rfl rfl rfl rfl ?_
                  refine s_pickT rfl rfl (by conv => lhs; whnf) rfl rfl rfl ?_
                  refine s_mv (.inl rfl) (by conv => lhs; whnf) rfl rfl rfl ?_
                  refine s_split (t := 74) rfl (fun b21 => ?_) (fun b21 => ?_)
                  · replace h := cond_t h b21
                    refine s_fieldAddr rfl rfl fd60_5 rfl rfl rfl rfl ?_
                    refine s_load rfl rfl rfl rfl ty9 rfl (.inr rfl) (by conv => lhs; whnf) rfl rfl rfl ?_
                    refine bnd1_elim h fun x22 q23 h => ?_
                    refine s_callN (kb := []) (ns := []) (v := .sc (.bool x22)) rfl rfl cl113 (ws_l5Text p0.text x22 q23) rfl (.cons (.free rfl) .nil) trivial memNil .nil memNil rfl trivial memNil rfl rfl rfl rfl rfl rfl ?_
                    refine s_pickT rfl rfl (by conv => lhs; whnf) rfl rfl rfl ?_
                    refine s_mv (.inr rfl) (by conv => lhs; whnf) rfl rfl rfl ?_
                    refine rt_nil ?_
                    refine tri_ret ?_
                    have e0 := (some1 h); subst e0
                    exact endY [] [] (rvC (resTmp rfl) rvN) trivial trivial rfl rfl rfl rfl (.free rfl)
                  · replace h := cond_f h b21
                    refine s_skip rfl rfl rfl ?_
                    refine s_skip rfl rfl rfl ?_
                    refine s_skip rfl rfl rfl ?_
                    refine s_pickF rfl rfl (v := .sc (.bool false)) rfl rfl rfl rfl ?_
                    refine s_mv (.inr rfl) (by conv => lhs; whnf) rfl rfl rfl ?_
                    refine rt_nil ?_
                    refine tri_ret ?_
                    have e0 := (some1 h); subst e0
                    exact endY [] [] (rvC (resTmp rfl) rvN) trivial trivial rfl rfl rfl rfl (.free rfl)
                · replace h := cond_f h b20
                  refine s_skip rfl rfl rfl ?_
                  refine s_skip rfl rfl rfl ?_
                  refine s_skip rfl rfl rfl ?_
                  refine s_pickF rfl rfl (v := .sc (.bool false)) rfl rfl rfl rfl ?_
                  refine s_mv (.inl rfl) (by conv => lhs; whnf) rfl rfl rfl ?_
                  refine s_skip rfl rfl rfl ?_
                  refine s_skip rfl rfl rfl ?_
                  refine s_skip rfl rfl rfl ?_
                  refine s_pickF rfl rfl (v := .sc (.bool false)) rfl rfl rfl rfl ?_
                  refine s_mv (.inr rfl) (by conv => lhs; whnf) rfl rfl rfl ?_
                  refine rt_nil ?_
                  refine tri_ret ?_
                  have e0 := (some1 h); subst e0
                  exact endY [] [] (rvC (resTmp rfl) rvN) trivial trivial rfl rfl rfl rfl (.free rfl)
              · replace h := cond_f h b19
                refine s_skip rfl rfl rfl ?_
                refine s_skip rfl rfl rfl ?_
                refine s_skip rfl rfl rfl ?_
                refine s_pickF rfl rfl (v := .sc (.bool false)) rfl rfl rfl rfl ?_
                refine s_mv (.inl rfl) (by conv => lhs; whnf) rfl rfl rfl ?_
                refine s_skip rfl rfl rfl ?_
                refine s_skip rfl rfl rfl ?_
                refine s_skip rfl rfl rfl ?_
                refine s_pickF rfl rfl (v := .sc (.bool false)) rfl rfl rfl rfl ?_
                refine s_mv (.inl rfl) (by conv => lhs; whnf) rfl rfl rfl ?_
                refine s_skip rfl rfl rfl ?_
                refine s_skip rfl rfl rfl ?_
                refine s_skip rfl rfl rfl ?_
                refine s_pickF rfl rfl (v := .sc (.bool false)) rfl rfl rfl rfl ?_
                refine s_mv (.inr rfl) (by conv => lhs; whnf) rfl rfl rfl ?_
                refine rt_nil ?_
                refine tri_ret ?_
                have e0 := (some1 h); subst e0
                exact endY [] [] (rvC (resTmp rfl) rvN) trivial trivial rfl rfl rfl rfl (.free rfl)

/- spec.l7List -/
def inv_s_l7List_1 (p0 : List Rec) (v1_0 : Nat) : St := mkT 19 [(0, .lst 6 (List.map recV p0)), (3, .sc (.int .i64 (v1_0 : Int)))] []
def inv_s_l7List_0 (p0 : List Rec) : St := mkT 19 [(0, .lst 6 (List.map recV p0))] []
set_option maxRecDepth 4000 in
set_option maxHeartbeats 800000 in
theorem ws_l7List (p0 : List Rec) (r0 : Bool) (h : s_l7List p0 = some r0) : Runs Tryd.prog 43 [.lst 6 (List.map recV p0)] [] (.sc (.bool r0)) [] := by
  unfold s_l7List at h
  refine runsR [.tmp 2] Tryd.func43 rfl rfl rfl rfl ?_
  rw [Tryd.ntmps43]
  refine tri_seq ?_
  refine tri_region ?_
  refine s_mv (.inr rfl) (v := .sc (.bool false)) rfl rfl rfl rfl ?_
  refine rt_nil ?_
  refine tri_cutI (ι := { p : Unit // s_l7List_j0 p0 = some r0 }) (fun p => inv_s_l7List_0 p0) ?_ ?_
  · skip
    refine tri_seq ?_
    refine tri_region ?_
    refine s_mv (.inr rfl) (v := .sc (.int .i64 0)) rfl rfl rfl rfl ?_
    refine rt_nil ?_
    refine tri_block ?_
    refine tri_lstM 0 rfl (fun hl1 => ?_)
    refine tri_loop (ι := { p : (List Rec) × Nat // p0.drop p.2 = p.1 ∧ s_l7List_l1 p0 p.1 p.2 = some r0 }) (fun p => inv_s_l7List_1 p0 p.1.2) (fun p => p.1.1.length) ⟨(p0, 0), rfl, h⟩ ?_ ?_
    · skip
      refine entX [] [] trivial trivial rfl rfl ?_
      exact ⟨(.free rfl), (.free rfl), trivial⟩
    · rintro ⟨⟨lrs1, v1_0⟩, hd1, h⟩
      replace hd1 : p0.drop v1_0 = lrs1 := hd1
      replace h : s_l7List_l1 p0 lrs1 v1_0 = some r0 := h
      show Tri _ _ _ (inv_s_l7List_1 p0 v1_0)
      refine tri_seq ?_
      refine tri_seq ?_
      refine tri_region ?_
      refine s_mv (.inl rfl) (by conv => lhs; whnf) rfl rfl rfl ?_
      refine s_mv (.inl rfl) (by conv => lhs; whnf) rfl rfl rfl ?_
      refine s_lenL rfl sl30 rfl rfl rfl rfl ?_
      refine s_of (st_lss rfl rfl rfl) rfl rfl rfl rfl ?_
      refine rt_nil ?_
      refine tri_cond rfl (fun c1 => ?_) (fun c1 => ?_)
      · refine drop_elim hd1 c1 fun e1 rs1 he hx1 hn1 => ?_
        subst he
        rw [s_l7List_l1] at h
        refine tri_skip ?_
        refine tri_seq ?_
        refine tri_block ?_
        refine tri_seq ?_
        refine tri_region ?_
        refine s_mv (.inl rfl) (by conv => lhs; whnf) rfl rfl rfl ?_
        refine s_mv (.inl rfl) (by conv => lhs; whnf) rfl rfl rfl ?_
        refine s_indexF (i := v1_0) rfl rfl rfl sl30 (get_ltM hx1) rfl rfl rfl ?_
        refine s_loadFR rfl rfl (rowG hx1) ty60 rfl rfl rfl ?_
        refine bnd1_elim h fun x2 q3 h => ?_
        refine s_callN (kb := []) (ns := []) (v := .sc (.bool x2)) rfl rfl cl87 (ws_RecordOk e1 x2 q3) rfl (.cons (relAgg rfl) .nil) trivial memNil .nil memNil rfl trivial memNil rfl rfl rfl rfl rfl rfl ?_
        refine s_of (st_not rfl rfl) rfl rfl rfl rfl ?_
        refine rt_nil ?_
        refine tri_cond rfl (fun c4 => ?_) (fun c4 => ?_)
        · replace h := cond_t h c4
          refine tri_seq ?_
          refine tri_region ?_
          refine s_mv (.inr rfl) (v := .sc (.bool false)) rfl rfl rfl rfl ?_
          refine rt_nil ?_
          refine tri_ret ?_
          have e0 := (some1 h); subst e0
          exact endY [] [] (rvC (resTmp rfl) rvN) trivial trivial rfl rfl rfl rfl (.free rfl)
        · replace h := cond_f h c4
          refine tri_skip ?_
          refine tri_region ?_
          refine s_mv (.inl rfl) (by conv => lhs; whnf) rfl rfl rfl ?_
          refine s_inc (a := v1_0) (b := 1) rfl rfl rfl rfl (by have := get_lt hx1; have := hl1; omega) rfl rfl rfl ?_
          refine s_mv (.inr rfl) (by conv => lhs; whnf) rfl rfl rfl ?_
          refine rt_nil ?_
          refine Exists.intro ⟨(rs1, (v1_0 + 1)), hn1, h⟩ (And.intro (Nat.lt_succ_self _) ?_)
          refine entX [] [] trivial trivial rfl rfl ?_
          exact ⟨(.free rfl), (.free rfl), trivial⟩
      · have he := drop_f hd1 c1; subst he
        rw [s_l7List_l1] at h
        refine tri_exit ?_
        refine Exists.intro ⟨(), h⟩ ?_
        refine entX [] [] trivial trivial rfl rfl ?_
        exact ⟨(.free rfl), trivial⟩
  · rintro ⟨u, h⟩
    replace h : s_l7List_j0 p0 = some r0 := h
    unfold s_l7List_j0 at h
    show Tri _ _ _ (inv_s_l7List_0 p0)
    refine tri_seq ?_
    refine tri_region ?_
    refine s_mv (.inl rfl) (by conv => lhs; whnf) rfl rfl rfl ?_
    refine s_lenL rfl sl30 rfl rfl rfl rfl ?_
    refine s_of (st_leq rfl rfl rfl) rfl rfl rfl rfl ?_
    refine s_mv (.inr rfl) (by conv => lhs; whnf) rfl rfl rfl ?_
    refine rt_nil ?_
    refine tri_ret ?_
    have e0 := (some1 h); subst e0
    exact endY [] [] (rvC (resTmp rfl) rvN) trivial trivial rfl rfl rfl rfl (.free rfl)

/- spec.EntryOk -/
def inv_s_EntryOk_4 (p0 : MEntry) (v3_0 : Nat) (j4_0 : Bool) : St := mkT 92 [(1, .ptr (1, 0) 0 0), (3, .sc (.int .i64 (v3_0 : Int))), (45, .sc (.bool j4_0))] [((1, 0), some ⟨32, 6, [[.sc (.string p0.q.name), .sc (.int .i64 p0.q.ty), .sc (.int .i64 p0.kind), .lst 6 (List.map recV p0.l), .sc (.int .i64 p0.rank), .sc (.int .i64 p0.til)]], false, true⟩)]
def inv_s_EntryOk_3 (p0 : MEntry) (v3_0 : Nat) : St := mkT 92 [(1, .ptr (1, 0) 0 0), (3, .sc (.int .i64 (v3_0 : Int)))] [((1, 0), some ⟨32, 6, [[.sc (.string p0.q.name), .sc (.int .i64 p0.q.ty), .sc (.int .i64 p0.kind), .lst 6 (List.map recV p0.l), .sc (.int .i64 p0.rank), .sc (.int .i64 p0.til)]], false, true⟩)]
def inv_s_EntryOk_2 (p0 : MEntry) : St := mkT 92 [(1, .ptr (1, 0) 0 0)] [((1, 0), some ⟨32, 6, [[.sc (.string p0.q.name), .sc (.int .i64 p0.q.ty), .sc (.int .i64 p0.kind), .lst 6 (List.map recV p0.l), .sc (.int .i64 p0.rank), .sc (.int .i64 p0.til)]], false, true⟩)]
def inv_s_EntryOk_1 (p0 : MEntry) : St := mkT 92 [(1, .ptr (1, 0) 0 0)] [((1, 0), some ⟨32, 6, [[.sc (.string p0.q.name), .sc (.int .i64 p0.q.ty), .sc (.int .i64 p0.kind), .lst 6 (List.map recV p0.l), .sc (.int .i64 p0.rank), .sc (.int .i64 p0.til)]], false, true⟩)]
def inv_s_EntryOk_0 (p0 : MEntry) (j0_0 : Bool) : St := mkT 92 [(1, .ptr (1, 0) 0 0), (12, .sc (.bool j0_0))] [((1, 0), some ⟨32, 6, [[.sc (.string p0.q.name), .sc (.int .i64 p0.q.ty), .sc (.int .i64 p0.kind), .lst 6 (List.map recV p0.l), .sc (.int .i64 p0.rank), .sc (.int .i64 p0.til)]], false, true⟩)]
set_option maxRecDepth 4000 in
set_option maxHeartbeats 800000 in
theorem ws_EntryOk (p0 : MEntry) (r0 : Bool) (h : s_EntryOk p0 = some r0) : Runs Tryd.prog 10 [.agg (mEntryV p0)] [] (.sc (.bool r0)) [] := by
  unfold s_EntryOk at h
  refine runsR [.tmp 2] Tryd.func10 rfl rfl rfl rfl ?_
  rw [Tryd.ntmps10]
  refine tri_seq ?_
  refine tri_region ?_
  refine s_box rfl rfl rfl rfl rfl rfl rfl ?_
  refine s_mv (.inr rfl) (v := .sc (.bool false)) rfl rfl rfl rfl ?_
  refine rt_nil ?_
  refine tri_seq ?_
  refine tri_cutI (ι := { p : Bool // s_EntryOk_j0 p0 p = some r0 }) (fun p => inv_s_EntryOk_0 p0 p.1) ?_ ?_
  · skip
    refine tri_region ?_
    refine s_fieldAddr rfl rfl fd32_3 rfl rfl rfl rfl ?_
    refine s_load rfl rfl rfl rfl ty3 rfl (.inr rfl) (by conv => lhs; whnf) rfl rfl rfl ?_
    refine bnd1_elim h fun x1 q2 h => ?_
    refine s_callN (kb := []) (ns := []) (v := .sc (.bool x1)) rfl rfl cl41 (ws_l1In p0.rank 1 3 x1 q2) rfl (.cons (.free rfl) (.cons (.free rfl) (.cons (.free rfl) .nil))) trivial memNil .nil memNil rfl trivial memNil rfl rfl rfl rfl rfl rfl ?_
    refine s_of (st_not rfl rfl) rfl rfl rfl rfl ?_
    refine s_mv (.inl rfl) (by conv => lhs; whnf) rfl rfl rfl ?_
    refine s_split (t := 8) rfl (fun b3 => ?_) (fun b3 => ?_)
    · replace h := cond_t h b3
      refine s_skip rfl rfl rfl ?_
      refine s_skip rfl rfl rfl ?_
      refine s_skip rfl rfl rfl ?_
      refine s_pickT rfl rfl (v := .sc (.bool true)) rfl rfl rfl rfl ?_
      refine rt_nil ?_
      refine Exists.intro ⟨true, h⟩ ?_
      refine entX [((1, 0), ⟨32, 6, [[.sc (.string p0.q.name), .sc (.int .i64 p0.q.ty), .sc (.int .i64 p0.kind), .lst 6 (List.map recV p0.l), .sc (.int .i64 p0.rank), .sc (.int .i64 p0.til)]], false, true⟩, some (1, 0))] [] ⟨⟨rfl, _, rfl, rfl, rfl, rfl, id, rowsCv_one (.cons (.free rfl) (.cons (.free rfl) (.cons (.free rfl) (.cons (.free rfl) (.cons (.free rfl) (.cons (.free rfl) .nil)))))), rowsZ_one rfl⟩, trivial⟩ trivial rfl rfl ?_
      exact ⟨(.ptr rfl), (.free rfl), trivial⟩
    · replace h := cond_f h b3
      refine s_fieldAddr rfl rfl fd32_4 rfl rfl rfl rfl ?_
      refine s_load rfl rfl rfl rfl ty3 rfl (.inr rfl) (by conv => lhs; whnf) rfl rfl rfl ?_
      refine s_of (st_lss rfl rfl rfl) rfl rfl rfl rfl ?_
      refine s_pickF rfl rfl (by conv => lhs; whnf) rfl rfl rfl ?_
      refine rt_nil ?_
      refine Exists.intro ⟨decide (p0.til < 0), h⟩ ?_
      refine entX [((1, 0), ⟨32, 6, [[.sc (.string p0.q.name), .sc (.int .i64 p0.q.ty), .sc (.int .i64 p0.kind), .lst 6 (List.map recV p0.l), .sc (.int .i64 p0.rank), .sc (.int .i64 p0.til)]], false, true⟩, some (1, 0))] [] ⟨⟨rfl, _, rfl, rfl, rfl, rfl, id, rowsCv_one (.cons (.free rfl) (.cons (.free rfl) (.cons (.free rfl) (.cons (.free rfl) (.cons (.free rfl) (.cons (.free rfl) .nil)))))), rowsZ_one rfl⟩, trivial⟩ trivial rfl rfl ?_
      exact ⟨(.ptr rfl), (.free rfl), trivial⟩
  · rintro ⟨j0_0, h⟩
    replace h : s_EntryOk_j0 p0 j0_0 = some r0 := h
    unfold s_EntryOk_j0 at h
    show Tri _ _ _ (inv_s_EntryOk_0 p0 j0_0)
    refine tri_cond rfl (fun c1 => ?_) (fun c1 => ?_)
    · replace h := cond_t h c1
      refine tri_seq ?_
      refine tri_region ?_
      refine s_mv (.inr rfl) (v := .sc (.bool false)) rfl rfl rfl rfl ?_
      refine rt_nil ?_
      refine tri_ret ?_
      have e0 := (some1 h); subst e0
      exact endY [] [] (rvC (resTmp rfl) rvN) trivial trivial rfl rfl rfl rfl (.free rfl)
    · replace h := cond_f h c1
      refine tri_skip ?_
      refine tri_cutI (ι := { p : Unit // s_EntryOk_j1 p0 = some r0 }) (fun p => inv_s_EntryOk_1 p0) ?_ ?_
      · skip
        refine tri_seq ?_
        refine tri_region ?_
        refine s_fieldAddr rfl rfl fd32_1 rfl rfl rfl rfl ?_
        refine s_load rfl rfl rfl rfl ty3 rfl (.inr rfl) (by conv => lhs; whnf) rfl rfl rfl ?_
        refine rt_nil ?_
        refine tri_block ?_
        refine tri_seq ?_
        refine tri_region ?_
        refine s_of (st_eqI rfl rfl rfl) rfl rfl rfl rfl ?_
        refine s_mv (.inr rfl) (by conv => lhs; whnf) rfl rfl rfl ?_
        refine rt_nil ?_
        refine tri_cond rfl (fun c2 => ?_) (fun c2 => ?_)
        · replace h := cond_t h c2
          refine tri_cutI (ι := { p : Unit // s_EntryOk_j2 p0 = some r0 }) (fun p => inv_s_EntryOk_2 p0) ?_ ?_
          · skip
            refine tri_seq ?_
            refine tri_region ?_
            refine s_mv (.inr rfl) (v := .sc (.int .i64 0)) rfl rfl rfl rfl ?_
            refine rt_nil ?_
            refine tri_block ?_
            refine tri_boxM (1, 0) 3 rfl rfl (fun hl3 => ?_)
            refine tri_loop (ι := { p : (List Rec) × Nat // p0.l.drop p.2 = p.1 ∧ s_EntryOk_l3 p0 p.1 p.2 = some r0 }) (fun p => inv_s_EntryOk_3 p0 p.1.2) (fun p => p.1.1.length) ⟨(p0.l, 0), rfl, h⟩ ?_ ?_
            · skip
              refine entX [((1, 0), ⟨32, 6, [[.sc (.string p0.q.name), .sc (.int .i64 p0.q.ty), .sc (.int .i64 p0.kind), .lst 6 (List.map recV p0.l), .sc (.int .i64 p0.rank), .sc (.int .i64 p0.til)]], false, true⟩, some (1, 0))] [] ⟨⟨rfl, _, rfl, rfl, rfl, rfl, id, rowsCv_one (.cons (.free rfl) (.cons (.free rfl) (.cons (.free rfl) (.cons (.free rfl) (.cons (.free rfl) (.cons (.free rfl) .nil)))))), rowsZ_one rfl⟩, trivial⟩ trivial rfl rfl ?_
              exact ⟨(.ptr rfl), (.free rfl), trivial⟩
            · rintro ⟨⟨lrs3, v3_0⟩, hd3, h⟩
              replace hd3 : p0.l.drop v3_0 = lrs3 := hd3
              replace h : s_EntryOk_l3 p0 lrs3 v3_0 = some r0 := h
              show Tri _ _ _ (inv_s_EntryOk_3 p0 v3_0)
              refine tri_seq ?_
              refine tri_seq ?_
              refine tri_region ?_
              refine s_mv (.inl rfl) (by conv => lhs; whnf) rfl rfl rfl ?_
              refine s_fieldAddr rfl rfl fd32_2 rfl rfl rfl rfl ?_
              refine s_load rfl rfl rfl rfl ty30 rfl (.inr rfl) (by conv => lhs; whnf) rfl rfl rfl ?_
              refine s_lenL rfl sl30 rfl rfl rfl rfl ?_
              refine s_of (st_lss rfl rfl rfl) rfl rfl rfl rfl ?_
              refine rt_nil ?_
              refine tri_cond rfl (fun c3 => ?_) (fun c3 => ?_)
              · refine drop_elim hd3 c3 fun e3 rs3 he hx3 hn3 => ?_
                subst he
                rw [s_EntryOk_l3] at h
                refine tri_skip ?_
                refine tri_seq ?_
                refine tri_block ?_
                refine tri_cutI (ι := { p : Bool // s_EntryOk_j4 v3_0 (s_EntryOk_l3 p0 rs3) p = some r0 }) (fun p => inv_s_EntryOk_4 p0 v3_0 p.1) ?_ ?_
                · skip
                  refine tri_draw mixed ?_
                  refine s_fieldAddr rfl rfl fd32_2 rfl rfl rfl rfl ?_
                  refine s_load rfl rfl rfl rfl ty30 rfl (.inr rfl) (by conv => lhs; whnf) rfl rfl rfl ?_
                  refine s_mv (.inl rfl) (by conv => lhs; whnf) rfl rfl rfl ?_
                  refine s_indexF (i := v3_0) rfl rfl rfl sl30 (get_ltM hx3) rfl rfl rfl ?_
                  refine s_fieldAddrF rfl rfl fd60_0 rfl rfl rfl rfl ?_
                  refine s_loadF rfl rfl (rowG hx3) ty9 rfl (.inr rfl) (by conv => lhs; whnf) rfl rfl rfl ?_
                  refine s_fieldAddr rfl rfl fd32_0 rfl rfl rfl rfl ?_
                  refine s_fieldAddr rfl rfl fd29_0 rfl rfl rfl rfl ?_
                  refine s_load rfl rfl rfl rfl ty9 rfl (.inr rfl) (by conv => lhs; whnf) rfl rfl rfl ?_
                  refine s_of (st_neS rfl rfl rfl) rfl rfl rfl rfl ?_
                  refine s_mv (.inl rfl) (by conv => lhs; whnf) rfl rfl rfl ?_
                  refine s_split (t := 34) rfl (fun b4 => ?_) (fun b4 => ?_)
                  · replace h := cond_t h b4
                    refine s_skip rfl rfl rfl ?_
                    refine s_skip rfl rfl rfl ?_
                    refine s_skip rfl rfl rfl ?_
                    refine s_skip rfl rfl rfl ?_
                    refine s_skip rfl rfl rfl ?_
                    refine s_skip rfl rfl rfl ?_
                    refine s_skip rfl rfl rfl ?_
                    refine s_skip rfl rfl rfl ?_
                    refine s_skip rfl rfl rfl ?_
                    refine s_skip rfl rfl rfl ?_
                    refine s_pickT rfl rfl (v := .sc (.bool true)) rfl rfl rfl rfl ?_
                    refine rt_nil ⟨by kernel_rfl, ?_⟩
                    refine Exists.intro ⟨true, h⟩ ?_
                    refine entX [((1, 0), ⟨32, 6, [[.sc (.string p0.q.name), .sc (.int .i64 p0.q.ty), .sc (.int .i64 p0.kind), .lst 6 (List.map recV p0.l), .sc (.int .i64 p0.rank), .sc (.int .i64 p0.til)]], false, true⟩, some (1, 0))] [] ⟨⟨rfl, _, rfl, rfl, rfl, rfl, id, rowsCv_one (.cons (.free rfl) (.cons (.free rfl) (.cons (.free rfl) (.cons (.free rfl) (.cons (.free rfl) (.cons (.free rfl) .nil)))))), rowsZ_one rfl⟩, trivial⟩ trivial rfl rfl ?_
                    exact ⟨(.ptr rfl), (.free rfl), (.free rfl), trivial⟩
                  · replace h := cond_f h b4
                    refine s_fieldAddr rfl rfl fd32_2 rfl rfl rfl rfl ?_
                    refine s_load rfl rfl rfl rfl ty30 rfl (.inr rfl) (by conv => lhs; whnf) rfl rfl rfl ?_
                    refine s_mv (.inl rfl) (by conv => lhs; whnf) rfl rfl rfl ?_
                    refine s_indexF (i := v3_0) rfl rfl rfl sl30 (get_ltM hx3) rfl rfl rfl ?_
                    refine s_fieldAddrF rfl rfl fd60_1 rfl rfl rfl rfl ?_
                    refine s_loadF rfl rfl (rowG hx3) ty3 rfl (.inr rfl) (by conv => lhs; whnf) rfl rfl rfl ?_
                    refine s_fieldAddr rfl rfl fd32_0 rfl rfl rfl rfl ?_
                    refine s_fieldAddr rfl rfl fd29_1 rfl rfl rfl rfl ?_
                    refine s_load rfl rfl rfl rfl ty3 rfl (.inr rfl) (by conv => lhs; whnf) rfl rfl rfl ?_
                    refine s_of (st_neI rfl rfl rfl) rfl rfl rfl rfl ?_
                    refine s_pickF rfl rfl (by conv => lhs; whnf) rfl rfl rfl ?_
                    refine rt_nil ⟨by kernel_rfl, ?_⟩
                    refine Exists.intro ⟨!decide (e3.ty = p0.q.ty), h⟩ ?_
                    refine entX [((1, 0), ⟨32, 6, [[.sc (.string p0.q.name), .sc (.int .i64 p0.q.ty), .sc (.int .i64 p0.kind), .lst 6 (List.map recV p0.l), .sc (.int .i64 p0.rank), .sc (.int .i64 p0.til)]], false, true⟩, some (1, 0))] [] ⟨⟨rfl, _, rfl, rfl, rfl, rfl, id, rowsCv_one (.cons (.free rfl) (.cons (.free rfl) (.cons (.free rfl) (.cons (.free rfl) (.cons (.free rfl) (.cons (.free rfl) .nil)))))), rowsZ_one rfl⟩, trivial⟩ trivial rfl rfl ?_
                    exact ⟨(.ptr rfl), (.free rfl), (.free rfl), trivial⟩
                · rintro ⟨j4_0, h⟩
                  replace h : s_EntryOk_j4 v3_0 (s_EntryOk_l3 p0 rs3) j4_0 = some r0 := h
                  unfold s_EntryOk_j4 at h
                  show Tri _ _ _ (inv_s_EntryOk_4 p0 v3_0 j4_0)
                  refine tri_cond rfl (fun c4 => ?_) (fun c4 => ?_)
                  · replace h := cond_t h c4
                    refine tri_seq ?_
                    refine tri_region ?_
                    refine s_mv (.inr rfl) (v := .sc (.bool false)) rfl rfl rfl rfl ?_
                    refine rt_nil ?_
                    refine tri_ret ?_
                    have e0 := (some1 h); subst e0
                    exact endY [] [] (rvC (resTmp rfl) rvN) trivial trivial rfl rfl rfl rfl (.free rfl)
                  · replace h := cond_f h c4
                    refine tri_skip ?_
                    refine tri_region ?_
                    refine s_mv (.inl rfl) (by conv => lhs; whnf) rfl rfl rfl ?_
                    refine s_inc (a := v3_0) (b := 1) rfl rfl rfl rfl (by have := get_lt hx3; have := hl3; omega) rfl rfl rfl ?_
                    refine s_mv (.inr rfl) (by conv => lhs; whnf) rfl rfl rfl ?_
                    refine rt_nil ?_
                    refine Exists.intro ⟨(rs3, (v3_0 + 1)), hn3, h⟩ (And.intro (Nat.lt_succ_self _) ?_)
                    refine entX [((1, 0), ⟨32, 6, [[.sc (.string p0.q.name), .sc (.int .i64 p0.q.ty), .sc (.int .i64 p0.kind), .lst 6 (List.map recV p0.l), .sc (.int .i64 p0.rank), .sc (.int .i64 p0.til)]], false, true⟩, some (1, 0))] [] ⟨⟨rfl, _, rfl, rfl, rfl, rfl, id, rowsCv_one (.cons (.free rfl) (.cons (.free rfl) (.cons (.free rfl) (.cons (.free rfl) (.cons (.free rfl) (.cons (.free rfl) .nil)))))), rowsZ_one rfl⟩, trivial⟩ trivial rfl rfl ?_
                    exact ⟨(.ptr rfl), (.free rfl), trivial⟩
              · have he := drop_f hd3 c3; subst he
                rw [s_EntryOk_l3] at h
                refine tri_exit ?_
                refine Exists.intro ⟨(), h⟩ ?_
                refine entX [((1, 0), ⟨32, 6, [[.sc (.string p0.q.name), .sc (.int .i64 p0.q.ty), .sc (.int .i64 p0.kind), .lst 6 (List.map recV p0.l), .sc (.int .i64 p0.rank), .sc (.int .i64 p0.til)]], false, true⟩, some (1, 0))] [] ⟨⟨rfl, _, rfl, rfl, rfl, rfl, id, rowsCv_one (.cons (.free rfl) (.cons (.free rfl) (.cons (.free rfl) (.cons (.free rfl) (.cons (.free rfl) (.cons (.free rfl) .nil)))))), rowsZ_one rfl⟩, trivial⟩ trivial rfl rfl ?_
                exact ⟨(.ptr rfl), trivial⟩
          · rintro ⟨u, h⟩
            replace h : s_EntryOk_j2 p0 = some r0 := h
            unfold s_EntryOk_j2 at h
            show Tri _ _ _ (inv_s_EntryOk_2 p0)
            refine tri_seq ?_
            refine tri_region ?_
            refine s_fieldAddr rfl rfl fd32_0 rfl rfl rfl rfl ?_
            refine s_load (v := .agg (questV p0.q)) rfl rfl rfl rfl ty29 rfl (.inl rfl) rfl rfl rfl rfl ?_
            refine bnd1_elim h fun x3 q4 h => ?_
            refine s_callN (kb := []) (ns := []) (v := .sc (.bool x3)) rfl rfl cl42 (ws_QuestOk p0.q x3 q4) rfl (.cons (relAgg rfl) .nil) trivial memNil .nil memNil rfl trivial memNil rfl rfl rfl rfl rfl rfl ?_
            refine s_mv (.inl rfl) (by conv => lhs; whnf) rfl rfl rfl ?_
            refine s_split (t := 49) rfl (fun b5 => ?_) (fun b5 => ?_)
            · replace h := cond_t h b5
              refine s_fieldAddr rfl rfl fd32_2 rfl rfl rfl rfl ?_
              refine s_load rfl rfl rfl rfl ty30 rfl (.inr rfl) (by conv => lhs; whnf) rfl rfl rfl ?_
              refine s_lenL rfl sl30 rfl rfl rfl rfl ?_
              refine s_of (st_gtr rfl rfl rfl) rfl rfl rfl rfl ?_
              refine s_pickT rfl rfl (by conv => lhs; whnf) rfl rfl rfl ?_
              refine s_mv (.inl rfl) (by conv => lhs; whnf) rfl rfl rfl ?_
              refine s_split (t := 55) rfl (fun b6 => ?_) (fun b6 => ?_)
              · replace h := cond_t h b6
                refine s_fieldAddr rfl rfl fd32_2 rfl rfl rfl rfl ?_
                refine s_load rfl rfl rfl rfl ty30 rfl (.inr rfl) (by conv => lhs; whnf) rfl rfl rfl ?_
                refine bnd1_elim h fun x7 q8 h => ?_
                refine s_callN (kb := []) (ns := []) (v := .sc (.bool x7)) rfl rfl cl43 (ws_l7List p0.l x7 q8) rfl (.cons (.free rfl) .nil) trivial memNil .nil memNil rfl trivial memNil rfl rfl rfl rfl rfl rfl ?_
                refine s_pickT rfl rfl (by conv => lhs; whnf) rfl rfl rfl ?_
                refine s_mv (.inr rfl) (by conv => lhs; whnf) rfl rfl rfl ?_
                refine rt_nil ?_
                refine tri_ret ?_
                have e0 := (some1 h); subst e0
                exact endY [] [] (rvC (resTmp rfl) rvN) trivial trivial rfl rfl rfl rfl (.free rfl)
              · replace h := cond_f h b6
                refine s_skip rfl rfl rfl ?_
                refine s_skip rfl rfl rfl ?_
                refine s_skip rfl rfl rfl ?_
                refine s_pickF rfl rfl (v := .sc (.bool false)) rfl rfl rfl rfl ?_
                refine s_mv (.inr rfl) (by conv => lhs; whnf) rfl rfl rfl ?_
                refine rt_nil ?_
                refine tri_ret ?_
                have e0 := (some1 h); subst e0
                exact endY [] [] (rvC (resTmp rfl) rvN) trivial trivial rfl rfl rfl rfl (.free rfl)
            · replace h := cond_f h b5
              refine s_skip rfl rfl rfl ?_
              refine s_skip rfl rfl rfl ?_
              refine s_skip rfl rfl rfl ?_
              refine s_skip rfl rfl rfl ?_
              refine s_pickF rfl rfl (v := .sc (.bool false)) rfl rfl rfl rfl ?_
              refine s_mv (.inl rfl) (by conv => lhs; whnf) rfl rfl rfl ?_
              refine s_skip rfl rfl rfl ?_
              refine s_skip rfl rfl rfl ?_
              refine s_skip rfl rfl rfl ?_
              refine s_pickF rfl rfl (v := .sc (.bool false)) rfl rfl rfl rfl ?_
              refine s_mv (.inr rfl) (by conv => lhs; whnf) rfl rfl rfl ?_
              refine rt_nil ?_
              refine tri_ret ?_
              have e0 := (some1 h); subst e0
              exact endY [] [] (rvC (resTmp rfl) rvN) trivial trivial rfl rfl rfl rfl (.free rfl)
        · replace h := cond_f h c2
          refine tri_seq ?_
          refine tri_region ?_
          refine s_of (st_eqI rfl rfl rfl) rfl rfl rfl rfl ?_
          refine s_mv (.inr rfl) (by conv => lhs; whnf) rfl rfl rfl ?_
          refine rt_nil ?_
          refine tri_cond rfl (fun c9 => ?_) (fun c9 => ?_)
          · replace h := cond_t h c9
            refine tri_seq ?_
            refine tri_region ?_
            refine s_fieldAddr rfl rfl fd32_0 rfl rfl rfl rfl ?_
            refine s_load (v := .agg (questV p0.q)) rfl rfl rfl rfl ty29 rfl (.inl rfl) rfl rfl rfl rfl ?_
            refine bnd1_elim h fun x10 q11 h => ?_
            refine s_callN (kb := []) (ns := []) (v := .sc (.bool x10)) rfl rfl cl42 (ws_QuestOk p0.q x10 q11) rfl (.cons (relAgg rfl) .nil) trivial memNil .nil memNil rfl trivial memNil rfl rfl rfl rfl rfl rfl ?_
            refine s_mv (.inl rfl) (by conv => lhs; whnf) rfl rfl rfl ?_
            refine s_split (t := 65) rfl (fun b12 => ?_) (fun b12 => ?_)
            · replace h := cond_t h b12
              refine s_fieldAddr rfl rfl fd32_2 rfl rfl rfl rfl ?_
              refine s_load rfl rfl rfl rfl ty30 rfl (.inr rfl) (by conv => lhs; whnf) rfl rfl rfl ?_
              refine s_lenL rfl sl30 rfl rfl rfl rfl ?_
              refine s_of (st_eqI rfl rfl rfl) rfl rfl rfl rfl ?_
              refine s_pickT rfl rfl (by conv => lhs; whnf) rfl rfl rfl ?_
              refine s_mv (.inr rfl) (by conv => lhs; whnf) rfl rfl rfl ?_
              refine rt_nil ?_
              refine tri_ret ?_
              have e0 := (some1 h); subst e0
              exact endY [] [] (rvC (resTmp rfl) rvN) trivial trivial rfl rfl rfl rfl (.free rfl)
            · replace h := cond_f h b12
              refine s_skip rfl rfl rfl ?_
              refine s_skip rfl rfl rfl ?_
              refine s_skip rfl rfl rfl ?_
              refine s_skip rfl rfl rfl ?_
              refine s_pickF rfl rfl (v := .sc (.bool false)) rfl rfl rfl rfl ?_
              refine s_mv (.inr rfl) (by conv => lhs; whnf) rfl rfl rfl ?_
              refine rt_nil ?_
              refine tri_ret ?_
              have e0 := (some1 h); subst e0
              exact endY [] [] (rvC (resTmp rfl) rvN) trivial trivial rfl rfl rfl rfl (.free rfl)
          · replace h := cond_f h c9
            refine tri_skip ?_
            refine Exists.intro ⟨(), h⟩ ?_
            refine entX [((1, 0), ⟨32, 6, [[.sc (.string p0.q.name), .sc (.int .i64 p0.q.ty), .sc (.int .i64 p0.kind), .lst 6 (List.map recV p0.l), .sc (.int .i64 p0.rank), .sc (.int .i64 p0.til)]], false, true⟩, some (1, 0))] [] ⟨⟨rfl, _, rfl, rfl, rfl, rfl, id, rowsCv_one (.cons (.free rfl) (.cons (.free rfl) (.cons (.free rfl) (.cons (.free rfl) (.cons (.free rfl) (.cons (.free rfl) .nil)))))), rowsZ_one rfl⟩, trivial⟩ trivial rfl rfl ?_
            exact ⟨(.ptr rfl), trivial⟩
      · rintro ⟨u, h⟩
        replace h : s_EntryOk_j1 p0 = some r0 := h
        unfold s_EntryOk_j1 at h
        show Tri _ _ _ (inv_s_EntryOk_1 p0)
        refine tri_seq ?_
        refine tri_region ?_
        refine s_fieldAddr rfl rfl fd32_1 rfl rfl rfl rfl ?_
        refine s_load rfl rfl rfl rfl ty3 rfl (.inr rfl) (by conv => lhs; whnf) rfl rfl rfl ?_
        refine s_of (st_eqI rfl rfl rfl) rfl rfl rfl rfl ?_
        refine s_mv (.inl rfl) (by conv => lhs; whnf) rfl rfl rfl ?_
        refine s_split (t := 74) rfl (fun b2 => ?_) (fun b2 => ?_)
        · replace h := cond_t h b2
          refine s_fieldAddr rfl rfl fd32_0 rfl rfl rfl rfl ?_
          refine s_fieldAddr rfl rfl fd29_0 rfl rfl rfl rfl ?_
          refine s_load rfl rfl rfl rfl ty9 rfl (.inr rfl) (by conv => lhs; whnf) rfl rfl rfl ?_
          refine bnd1_elim h fun x3 q4 h => ?_
          refine s_callN (kb := []) (ns := []) (v := .sc (.bool x3)) rfl rfl cl44 (ws_NameOk p0.q.name x3 q4) rfl (.cons (.free rfl) .nil) trivial memNil .nil memNil rfl trivial memNil rfl rfl rfl rfl rfl rfl ?_
          refine s_pickT rfl rfl (by conv => lhs; whnf) rfl rfl rfl ?_
          refine s_mv (.inl rfl) (by conv => lhs; whnf) rfl rfl rfl ?_
          refine s_split (t := 80) rfl (fun b5 => ?_) (fun b5 => ?_)
          · replace h := cond_t h b5
            refine s_fieldAddr rfl rfl fd32_0 rfl rfl rfl rfl ?_
            refine s_fieldAddr rfl rfl fd29_1 rfl rfl rfl rfl ?_
            refine s_load rfl rfl rfl rfl ty3 rfl (.inr rfl) (by conv => lhs; whnf) rfl rfl rfl ?_
            refine s_of (st_eqI rfl rfl rfl) rfl rfl rfl rfl ?_
            refine s_pickT rfl rfl (by conv => lhs; whnf) rfl rfl rfl ?_
            refine s_mv (.inl rfl) (by conv => lhs; whnf) rfl rfl rfl ?_
            refine s_split (t := 86) rfl (fun b6 => ?_) (fun b6 => ?_)
            · replace h := cond_t h b6
              refine s_fieldAddr rfl rfl fd32_2 rfl rfl rfl rfl ?_
              refine s_load rfl rfl rfl rfl ty30 rfl (.inr rfl) (by conv => lhs; whnf) rfl rfl rfl ?_
              refine s_lenL rfl sl30 rfl rfl rfl rfl ?_
              refine s_of (st_eqI rfl rfl rfl) rfl rfl rfl rfl ?_
              refine s_pickT rfl rfl (by conv => lhs; whnf) rfl rfl rfl ?_
              refine s_mv (.inr rfl) (by conv => lhs; whnf) rfl rfl rfl ?_
              refine rt_nil ?_
              refine tri_ret ?_
              have e0 := (some1 h); subst e0
              exact endY [] [] (rvC (resTmp rfl) rvN) trivial trivial rfl rfl rfl rfl (.free rfl)
            · replace h := cond_f h b6
              refine s_skip rfl rfl rfl ?_
              refine s_skip rfl rfl rfl ?_
              refine s_skip rfl rfl rfl ?_
              refine s_skip rfl rfl rfl ?_
              refine s_pickF rfl rfl (v := .sc (.bool false)) rfl rfl rfl rfl ?_
              refine s_mv (.inr rfl) (by conv => lhs; whnf) rfl rfl rfl ?_
              refine rt_nil ?_
              refine tri_ret ?_
              have e0 := (some1 h); subst e0
              exact endY [] [] (rvC (resTmp rfl) rvN) trivial trivial rfl rfl rfl rfl (.free rfl)
          · replace h := cond_f h b5
            refine s_skip rfl rfl rfl ?_
            refine s_skip rfl rfl rfl ?_
            refine s_skip rfl rfl rfl ?_
            refine s_skip rfl rfl rfl ?_
            refine s_pickF rfl rfl (v := .sc (.bool false)) rfl rfl rfl rfl ?_
            refine s_mv (.inl rfl) (by conv => lhs; whnf) rfl rfl rfl ?_
            refine s_skip rfl rfl rfl ?_
            refine s_skip rfl rfl rfl ?_
            refine s_skip rfl rfl rfl ?_
            refine s_skip rfl rfl rfl ?_
            refine s_pickF rfl rfl (v := .sc (.bool false)) rfl rfl rfl rfl ?_
            refine s_mv (.inr rfl) (by conv => lhs; whnf) rfl rfl rfl ?_
            refine rt_nil ?_
            refine tri_ret ?_
            have e0 := (some1 h); subst e0
            exact endY [] [] (rvC (resTmp rfl) rvN) trivial trivial rfl rfl rfl rfl (.free rfl)
        · replace h := cond_f h b2
          refine s_skip rfl rfl rfl ?_
          refine s_skip rfl rfl rfl ?_
          refine s_skip rfl rfl rfl ?_
          refine s_skip rfl rfl rfl ?_
          refine s_pickF rfl rfl (v := .sc (.bool false)) rfl rfl rfl rfl ?_
          refine s_mv (.inl rfl) (by conv => lhs; whnf) rfl rfl rfl ?_
          refine s_skip rfl rfl rfl ?_
          refine s_skip rfl rfl rfl ?_
          refine s_skip rfl rfl rfl ?_
          refine s_skip rfl rfl rfl ?_
          refine s_pickF rfl rfl (v := .sc (.bool false)) rfl rfl rfl rfl ?_
          refine s_mv (.inl rfl) (by conv => lhs; whnf) rfl rfl rfl ?_
          refine s_skip rfl rfl rfl ?_
          refine s_skip rfl rfl rfl ?_
          refine s_skip rfl rfl rfl ?_
          refine s_skip rfl rfl rfl ?_
          refine s_pickF rfl rfl (v := .sc (.bool false)) rfl rfl rfl rfl ?_
          refine s_mv (.inr rfl) (by conv => lhs; whnf) rfl rfl rfl ?_
          refine rt_nil ?_
          refine tri_ret ?_
          have e0 := (some1 h); subst e0
          exact endY [] [] (rvC (resTmp rfl) rvN) trivial trivial rfl rfl rfl rfl (.free rfl)

/- spec.l15Lives -/

set_option maxRecDepth 4000 in
set_option maxHeartbeats 800000 in
theorem ws_l15Lives (p0 : MEntry) (p1 : Int) (r0 : Bool) (h : s_l15Lives p0 p1 = some r0) : Runs Tryd.prog 65 [.agg (mEntryV p0), .sc (.int .i64 p1)] [] (.sc (.bool r0)) [] := by
  unfold s_l15Lives at h
  refine runsR [.tmp 4] Tryd.func65 rfl rfl rfl rfl ?_
  rw [Tryd.ntmps65]
  refine tri_seq ?_
  refine tri_region ?_
  refine s_box rfl rfl rfl rfl rfl rfl rfl ?_
  refine s_mv (.inr rfl) (v := .sc (.bool false)) rfl rfl rfl rfl ?_
  refine rt_nil ?_
  refine tri_seq ?_
  refine tri_region ?_
  refine s_mv (.inl rfl) (by conv => lhs; whnf) rfl rfl rfl ?_
  refine s_fieldAddr rfl rfl fd32_4 rfl rfl rfl rfl ?_
  refine s_load rfl rfl rfl rfl ty3 rfl (.inr rfl) (by conv => lhs; whnf) rfl rfl rfl ?_
  refine s_of (st_lss rfl rfl rfl) rfl rfl rfl rfl ?_
  refine s_mv (.inr rfl) (by conv => lhs; whnf) rfl rfl rfl ?_
  refine rt_nil ?_
  refine tri_ret ?_
  have e0 := (some1 h); subst e0
  exact endY [] [] (rvC (resTmp rfl) rvN) trivial trivial rfl rfl rfl rfl (.free rfl)

/- spec.l15At -/
def inv_s_l15At_0 (p0 : MCache) (p1 : Quest) (v0_0 : Nat) : St := mkT 22 [(2, .ptr (2, 0) 0 0), (3, .ptr (3, 0) 0 0), (5, .sc (.int .i64 (v0_0 : Int)))] [((2, 0), some ⟨43, 2, [[.sc (.int .i64 p0.cap), .lst 6 (List.map mEntryV p0.l)]], false, true⟩), ((3, 0), some ⟨29, 2, [[.sc (.string p1.name), .sc (.int .i64 p1.ty)]], false, true⟩)]
set_option maxRecDepth 4000 in
set_option maxHeartbeats 800000 in
theorem ws_l15At (p0 : MCache) (p1 : Quest) (r0 : Int) (h : s_l15At p0 p1 = some r0) : Runs Tryd.prog 54 [.agg (mCacheV p0), .agg (questV p1)] [] (.sc (.int .i64 r0)) [] := by
  unfold s_l15At at h
  refine runsR [.tmp 4] Tryd.func54 rfl rfl rfl rfl ?_
  rw [Tryd.ntmps54]
  refine tri_seq ?_
  refine tri_region ?_
  refine s_box rfl rfl rfl rfl rfl rfl rfl ?_
  refine s_box rfl rfl rfl rfl rfl rfl rfl ?_
  refine s_mv (.inr rfl) (v := .sc (.int .i64 0)) rfl rfl rfl rfl ?_
  refine rt_nil ?_
  refine tri_seq ?_
  refine tri_seq ?_
  refine tri_region ?_
  refine s_mv (.inr rfl) (v := .sc (.int .i64 0)) rfl rfl rfl rfl ?_
  refine rt_nil ?_
  refine tri_block ?_
  refine tri_aggM 0 1 rfl rfl (fun hl0 => ?_)
  refine tri_loop (ι := { p : (List MEntry) × Nat // p0.l.drop p.2 = p.1 ∧ s_l15At_l0 p1 p.1 p.2 = some r0 }) (fun p => inv_s_l15At_0 p0 p1 p.1.2) (fun p => p.1.1.length) ⟨(p0.l, 0), rfl, h⟩ ?_ ?_
  · skip
    refine entX [((2, 0), ⟨43, 2, [[.sc (.int .i64 p0.cap), .lst 6 (List.map mEntryV p0.l)]], false, true⟩, some (2, 0)), ((3, 0), ⟨29, 2, [[.sc (.string p1.name), .sc (.int .i64 p1.ty)]], false, true⟩, some (3, 0))] [] ⟨⟨rfl, _, rfl, rfl, rfl, rfl, id, rowsCv_one (.cons (.free rfl) (.cons (.free rfl) .nil)), rowsZ_one rfl⟩, ⟨rfl, _, rfl, rfl, rfl, rfl, id, rowsCv_one (.cons (.free rfl) (.cons (.free rfl) .nil)), rowsZ_one rfl⟩, trivial⟩ trivial rfl rfl ?_
    exact ⟨(.ptr rfl), (.ptr rfl), (.free rfl), trivial⟩
  · rintro ⟨⟨lrs0, v0_0⟩, hd0, h⟩
    replace hd0 : p0.l.drop v0_0 = lrs0 := hd0
    replace h : s_l15At_l0 p1 lrs0 v0_0 = some r0 := h
    show Tri _ _ _ (inv_s_l15At_0 p0 p1 v0_0)
    refine tri_seq ?_
    refine tri_seq ?_
    refine tri_region ?_
    refine s_mv (.inl rfl) (by conv => lhs; whnf) rfl rfl rfl ?_
    refine s_fieldAddr rfl rfl fd43_1 rfl rfl rfl rfl ?_
    refine s_load rfl rfl rfl rfl ty41 rfl (.inr rfl) (by conv => lhs; whnf) rfl rfl rfl ?_
    refine s_lenL rfl sl41 rfl rfl rfl rfl ?_
    refine s_of (st_lss rfl rfl rfl) rfl rfl rfl rfl ?_
    refine rt_nil ?_
    refine tri_cond rfl (fun c1 => ?_) (fun c1 => ?_)
    · refine drop_elim hd0 c1 fun e0 rs0 he hx0 hn0 => ?_
      subst he
      rw [s_l15At_l0] at h
      refine tri_skip ?_
      refine tri_seq ?_
      refine tri_block ?_
      refine tri_seq ?_
      refine tri_draw mixed ?_
      refine s_fieldAddr rfl rfl fd43_1 rfl rfl rfl rfl ?_
      refine s_load rfl rfl rfl rfl ty41 rfl (.inr rfl) (by conv => lhs; whnf) rfl rfl rfl ?_
      refine s_mv (.inl rfl) (by conv => lhs; whnf) rfl rfl rfl ?_
      refine s_indexF (i := v0_0) rfl rfl rfl sl41 (get_ltM hx0) rfl rfl rfl ?_
      refine s_fieldAddrF rfl rfl fd32_0 rfl rfl rfl rfl ?_
      refine s_loadF (v := .agg (questV e0.q)) rfl rfl (rowG hx0) ty29 rfl (.inl rfl) rfl rfl rfl rfl ?_
      refine s_loadR rfl rfl rfl rfl ty29 rfl rfl rfl ?_
      refine s_eqStruct (r' := (decide (e0.q.name = p1.name) && (decide (e0.q.ty = p1.ty) && true))) rfl rfl rfl fk29 rfl rfl rfl rfl rfl ?_
      refine rt_nil ⟨by kernel_rfl, ?_⟩
      refine tri_cond rfl (fun c2 => ?_) (fun c2 => ?_)
      · replace h := cond_t h c2
        refine tri_seq ?_
        refine tri_region ?_
        refine s_mv (.inl rfl) (by conv => lhs; whnf) rfl rfl rfl ?_
        refine s_mv (.inr rfl) (by conv => lhs; whnf) rfl rfl rfl ?_
        refine rt_nil ?_
        refine tri_ret ?_
        have e0 := (some1 h); subst e0
        exact endY [] [] (rvC (resTmp rfl) rvN) trivial trivial rfl rfl rfl rfl (.free rfl)
      · replace h := cond_f h c2
        refine tri_skip ?_
        refine tri_region ?_
        refine s_mv (.inl rfl) (by conv => lhs; whnf) rfl rfl rfl ?_
        refine s_inc (a := v0_0) (b := 1) rfl rfl rfl rfl (by have := get_lt hx0; have := hl0; omega) rfl rfl rfl ?_
        refine s_mv (.inr rfl) (by conv => lhs; whnf) rfl rfl rfl ?_
        refine rt_nil ?_
        refine Exists.intro ⟨(rs0, (v0_0 + 1)), hn0, h⟩ (And.intro (Nat.lt_succ_self _) ?_)
        refine entX [((2, 0), ⟨43, 2, [[.sc (.int .i64 p0.cap), .lst 6 (List.map mEntryV p0.l)]], false, true⟩, some (2, 0)), ((3, 0), ⟨29, 2, [[.sc (.string p1.name), .sc (.int .i64 p1.ty)]], false, true⟩, some (3, 0))] [] ⟨⟨rfl, _, rfl, rfl, rfl, rfl, id, rowsCv_one (.cons (.free rfl) (.cons (.free rfl) .nil)), rowsZ_one rfl⟩, ⟨rfl, _, rfl, rfl, rfl, rfl, id, rowsCv_one (.cons (.free rfl) (.cons (.free rfl) .nil)), rowsZ_one rfl⟩, trivial⟩ trivial rfl rfl ?_
        exact ⟨(.ptr rfl), (.ptr rfl), (.free rfl), trivial⟩
    · have he := drop_f hd0 c1; subst he
      rw [s_l15At_l0] at h
      refine tri_exit ?_
      refine tri_seq ?_
      refine tri_region ?_
      refine s_mv (.inr rfl) (v := .sc (.int .i64 (-1))) rfl rfl rfl rfl ?_
      refine rt_nil ?_
      refine tri_ret ?_
      have e0 := (some1 h); subst e0
      exact endY [] [] (rvC (resTmp rfl) rvN) trivial trivial rfl rfl rfl rfl (.free rfl)

/- spec.l15Oldest -/
def inv_s_l15Oldest_0 (p0 : MCache) (v0_0 : Int) (v0_1 : Nat) : St := mkT 27 [(1, .ptr (1, 0) 0 0), (3, .sc (.int .i64 v0_0)), (4, .sc (.int .i64 (v0_1 : Int)))] [((1, 0), some ⟨43, 2, [[.sc (.int .i64 p0.cap), .lst 6 (List.map mEntryV p0.l)]], false, true⟩)]
set_option maxRecDepth 4000 in
set_option maxHeartbeats 800000 in
theorem ws_l15Oldest (p0 : MCache) (r0 : Int) (h : s_l15Oldest p0 = some r0) : Runs Tryd.prog 80 [.agg (mCacheV p0)] [] (.sc (.int .i64 r0)) [] := by
  unfold s_l15Oldest at h
  refine runsR [.tmp 2] Tryd.func80 rfl rfl rfl rfl ?_
  rw [Tryd.ntmps80]
  refine tri_seq ?_
  refine tri_region ?_
  refine s_box rfl rfl rfl rfl rfl rfl rfl ?_
  refine s_mv (.inr rfl) (v := .sc (.int .i64 0)) rfl rfl rfl rfl ?_
  refine rt_nil ?_
  refine tri_seq ?_
  refine tri_region ?_
  refine s_mv (.inr rfl) (v := .sc (.int .i64 0)) rfl rfl rfl rfl ?_
  refine rt_nil ?_
  refine tri_seq ?_
  refine tri_seq ?_
  refine tri_region ?_
  refine s_mv (.inr rfl) (v := .sc (.int .i64 1)) rfl rfl rfl rfl ?_
  refine rt_nil ?_
  refine tri_block ?_
  refine tri_aggM 0 1 rfl rfl (fun hl0 => ?_)
  refine tri_loop (ι := { p : (List MEntry) × Int × Nat // p0.l.drop p.2.2 = p.1 ∧ s_l15Oldest_l0 p0 p.1 p.2.1 p.2.2 = some r0 }) (fun p => inv_s_l15Oldest_0 p0 p.1.2.1 p.1.2.2) (fun p => p.1.1.length) ⟨((p0.l.drop 1), 0, 1), rfl, h⟩ ?_ ?_
  · skip
    refine entX [((1, 0), ⟨43, 2, [[.sc (.int .i64 p0.cap), .lst 6 (List.map mEntryV p0.l)]], false, true⟩, some (1, 0))] [] ⟨⟨rfl, _, rfl, rfl, rfl, rfl, id, rowsCv_one (.cons (.free rfl) (.cons (.free rfl) .nil)), rowsZ_one rfl⟩, trivial⟩ trivial rfl rfl ?_
    exact ⟨(.ptr rfl), (.free rfl), (.free rfl), trivial⟩
  · rintro ⟨⟨lrs0, v0_0, v0_1⟩, hd0, h⟩
    replace hd0 : p0.l.drop v0_1 = lrs0 := hd0
    replace h : s_l15Oldest_l0 p0 lrs0 v0_0 v0_1 = some r0 := h
    show Tri _ _ _ (inv_s_l15Oldest_0 p0 v0_0 v0_1)
    refine tri_seq ?_
    refine tri_seq ?_
    refine tri_region ?_
    refine s_mv (.inl rfl) (by conv => lhs; whnf) rfl rfl rfl ?_
    refine s_fieldAddr rfl rfl fd43_1 rfl rfl rfl rfl ?_
    refine s_load rfl rfl rfl rfl ty41 rfl (.inr rfl) (by conv => lhs; whnf) rfl rfl rfl ?_
    refine s_lenL rfl sl41 rfl rfl rfl rfl ?_
    refine s_of (st_lss rfl rfl rfl) rfl rfl rfl rfl ?_
    refine rt_nil ?_
    refine tri_cond rfl (fun c1 => ?_) (fun c1 => ?_)
    · refine drop_elim hd0 c1 fun e0 rs0 he hx0 hn0 => ?_
      subst he
      rw [s_l15Oldest_l0] at h
      refine tri_skip ?_
      refine tri_seq ?_
      refine tri_block ?_
      refine tri_seq ?_
      refine tri_draw mixed ?_
      refine s_fieldAddr rfl rfl fd43_1 rfl rfl rfl rfl ?_
      refine s_load rfl rfl rfl rfl ty41 rfl (.inr rfl) (by conv => lhs; whnf) rfl rfl rfl ?_
      refine s_mv (.inl rfl) (by conv => lhs; whnf) rfl rfl rfl ?_
      refine s_indexF (i := v0_1) rfl rfl rfl sl41 (get_ltM hx0) rfl rfl rfl ?_
      refine s_fieldAddrF rfl rfl fd32_4 rfl rfl rfl rfl ?_
      refine s_loadF rfl rfl (rowG hx0) ty3 rfl (.inr rfl) (by conv => lhs; whnf) rfl rfl rfl ?_
      refine s_fieldAddr rfl rfl fd43_1 rfl rfl rfl rfl ?_
      refine s_load rfl rfl rfl rfl ty41 rfl (.inr rfl) (by conv => lhs; whnf) rfl rfl rfl ?_
      refine s_mv (.inl rfl) (by conv => lhs; whnf) rfl rfl rfl ?_
      refine bnd1_elim h fun x2 q3 h => ?_
      have q3a := (idx_some q3).1; have q3b := (idx_some q3).2
      refine s_indexFZ rfl rfl rfl sl41 q3a (get_ltM q3b) rfl rfl rfl ?_
      refine s_fieldAddrF rfl rfl fd32_4 rfl rfl rfl rfl ?_
      refine s_loadF rfl rfl (rowG q3b) ty3 rfl (.inr rfl) (by conv => lhs; whnf) rfl rfl rfl ?_
      refine s_of (st_lss rfl rfl rfl) rfl rfl rfl rfl ?_
      refine rt_nil ⟨by kernel_rfl, ?_⟩
      refine tri_cond rfl (fun c4 => ?_) (fun c4 => ?_)
      · replace h := cond_t h c4
        refine tri_region ?_
        refine s_mv (.inl rfl) (by conv => lhs; whnf) rfl rfl rfl ?_
        refine s_mv (.inr rfl) (by conv => lhs; whnf) rfl rfl rfl ?_
        refine rt_nil ?_
        refine tri_region ?_
        refine s_mv (.inl rfl) (by conv => lhs; whnf) rfl rfl rfl ?_
        refine s_inc (a := v0_1) (b := 1) rfl rfl rfl rfl (by have := get_lt hx0; have := hl0; omega) rfl rfl rfl ?_
        refine s_mv (.inr rfl) (by conv => lhs; whnf) rfl rfl rfl ?_
        refine rt_nil ?_
        refine Exists.intro ⟨(rs0, (v0_1 : Int), (v0_1 + 1)), hn0, h⟩ (And.intro (Nat.lt_succ_self _) ?_)
        refine entX [((1, 0), ⟨43, 2, [[.sc (.int .i64 p0.cap), .lst 6 (List.map mEntryV p0.l)]], false, true⟩, some (1, 0))] [] ⟨⟨rfl, _, rfl, rfl, rfl, rfl, id, rowsCv_one (.cons (.free rfl) (.cons (.free rfl) .nil)), rowsZ_one rfl⟩, trivial⟩ trivial rfl rfl ?_
        exact ⟨(.ptr rfl), (.free rfl), (.free rfl), trivial⟩
      · replace h := cond_f h c4
        refine tri_skip ?_
        refine tri_region ?_
        refine s_mv (.inl rfl) (by conv => lhs; whnf) rfl rfl rfl ?_
        refine s_inc (a := v0_1) (b := 1) rfl rfl rfl rfl (by have := get_lt hx0; have := hl0; omega) rfl rfl rfl ?_
        refine s_mv (.inr rfl) (by conv => lhs; whnf) rfl rfl rfl ?_
        refine rt_nil ?_
        refine Exists.intro ⟨(rs0, v0_0, (v0_1 + 1)), hn0, h⟩ (And.intro (Nat.lt_succ_self _) ?_)
        refine entX [((1, 0), ⟨43, 2, [[.sc (.int .i64 p0.cap), .lst 6 (List.map mEntryV p0.l)]], false, true⟩, some (1, 0))] [] ⟨⟨rfl, _, rfl, rfl, rfl, rfl, id, rowsCv_one (.cons (.free rfl) (.cons (.free rfl) .nil)), rowsZ_one rfl⟩, trivial⟩ trivial rfl rfl ?_
        exact ⟨(.ptr rfl), (.free rfl), (.free rfl), trivial⟩
    · have he := drop_f hd0 c1; subst he
      rw [s_l15Oldest_l0] at h
      refine tri_exit ?_
      refine tri_seq ?_
      refine tri_region ?_
      refine s_mv (.inl rfl) (by conv => lhs; whnf) rfl rfl rfl ?_
      refine s_mv (.inr rfl) (by conv => lhs; whnf) rfl rfl rfl ?_
      refine rt_nil ?_
      refine tri_ret ?_
      have e0 := (some1 h); subst e0
      exact endY [] [] (rvC (resTmp rfl) rvN) trivial trivial rfl rfl rfl rfl (.free rfl)

/- spec.Keep -/
def inv_s_Keep_1 (x1 : MCache) (x4 : MEntry) (x6 : Int) (j1_0 : Bool) : St := mkT 89 [(6, .ptr (6, 0) 0 0), (7, .ptr (7, 0) 0 0), (8, .ptr (8, 0) 0 0), (9, .sc (.int .i64 x6)), (48, .sc (.bool j1_0))] [((6, 0), some ⟨43, 2, [[.sc (.int .i64 0), .nils]], false, true⟩), ((7, 0), some ⟨43, 2, [[.sc (.int .i64 x1.cap), .ref (11, 1) 0 x1.l.length]], false, true⟩), ((11, 1), some ⟨32, 6, List.map mEntryV x1.l, false, true⟩), ((8, 0), some ⟨32, 6, [[.sc (.string x4.q.name), .sc (.int .i64 x4.q.ty), .sc (.int .i64 x4.kind), .lst 6 (List.map recV x4.l), .sc (.int .i64 x4.rank), .sc (.int .i64 x4.til)]], false, true⟩)]
def inv_s_Keep_3 (x1 : MCache) (x4 : MEntry) (j3_0 : Bool) : St := mkT 89 [(6, .ptr (6, 0) 0 0), (7, .ptr (7, 0) 0 0), (8, .ptr (8, 0) 0 0), (66, .sc (.bool j3_0))] [((6, 0), some ⟨43, 2, [[.sc (.int .i64 0), .nils]], false, true⟩), ((7, 0), some ⟨43, 2, [[.sc (.int .i64 x1.cap), .ref (11, 1) 0 x1.l.length]], false, true⟩), ((11, 1), some ⟨32, 6, List.map mEntryV x1.l, false, true⟩), ((8, 0), some ⟨32, 6, [[.sc (.string x4.q.name), .sc (.int .i64 x4.q.ty), .sc (.int .i64 x4.kind), .lst 6 (List.map recV x4.l), .sc (.int .i64 x4.rank), .sc (.int .i64 x4.til)]], false, true⟩)]
def inv_s_Keep_2 (x1 : MCache) (x4 : MEntry) (j2_0 : List MEntry) : St := mkT 89 [(6, .ptr (6, 0) 0 0), (7, .ptr (7, 0) 0 0), (8, .ptr (8, 0) 0 0)] [((6, 0), some ⟨43, 2, [[.sc (.int .i64 0), .nils]], false, true⟩), ((7, 0), some ⟨43, 2, [[.sc (.int .i64 x1.cap), .ref (2007, 2) 0 j2_0.length]], false, true⟩), ((2007, 2), some ⟨32, 6, List.map mEntryV j2_0, false, true⟩), ((8, 0), some ⟨32, 6, [[.sc (.string x4.q.name), .sc (.int .i64 x4.q.ty), .sc (.int .i64 x4.kind), .lst 6 (List.map recV x4.l), .sc (.int .i64 x4.rank), .sc (.int .i64 x4.til)]], false, true⟩)]
def inv_s_Keep_0 (p0 : MCache) (p1 : Int) (p2 : MEntry) (x1 : MCache) (j0_0 : Bool) : St := mkT 89 [(1, .sc (.int .i64 p1)), (3, .ptr (3, 0) 0 0), (5, .ptr (5, 0) 0 0), (6, .ptr (6, 0) 0 0), (7, .ptr (7, 0) 0 0), (20, .sc (.bool j0_0))] [((3, 0), some ⟨43, 2, [[.sc (.int .i64 p0.cap), .lst 6 (List.map mEntryV p0.l)]], false, true⟩), ((5, 0), some ⟨32, 6, [[.sc (.string p2.q.name), .sc (.int .i64 p2.q.ty), .sc (.int .i64 p2.kind), .lst 6 (List.map recV p2.l), .sc (.int .i64 p2.rank), .sc (.int .i64 p2.til)]], false, true⟩), ((6, 0), some ⟨43, 2, [[.sc (.int .i64 0), .nils]], false, true⟩), ((7, 0), some ⟨43, 2, [[.sc (.int .i64 x1.cap), .ref (11, 1) 0 x1.l.length]], false, true⟩), ((11, 1), some ⟨32, 6, List.map mEntryV x1.l, false, true⟩)]
set_option maxRecDepth 4000 in
set_option maxHeartbeats 800000 in
theorem ws_Keep (p0 : MCache) (p1 : Int) (p2 : MEntry) (r0 : MCache) (h : s_Keep p0 p1 p2 = some r0) : Runs Tryd.prog 34 [.agg (mCacheV p0), .sc (.int .i64 p1), .agg (mEntryV p2)] [] (.agg [.sc (.int .i64 r0.cap), .own 32 6 (List.map mEntryV r0.l)]) [] := by
  unfold s_Keep at h
  refine runsR [.cell 6 43] Tryd.func34 rfl rfl rfl rfl ?_
  rw [Tryd.ntmps34]
  refine tri_seq ?_
  refine tri_region ?_
  refine s_box rfl rfl rfl rfl rfl rfl rfl ?_
  refine s_box rfl rfl rfl rfl rfl rfl rfl ?_
  refine s_alloc rfl rfl rfl zc43 rfl rfl rfl rfl rfl ?_
  refine rt_nil ?_
  refine tri_seq ?_
  refine tri_region ?_
  refine s_loadR rfl rfl rfl rfl ty43 rfl rfl rfl ?_
  refine bnd1_elim h fun x1 q2 h => ?_
  refine s_callZ (kb := []) (ns := []) (v := .agg [.sc (.int .i64 x1.cap), .ref (11, 1) 0 x1.l.length]) rfl rfl cl79 (ws_l15Copy p0 x1 q2) rfl (.cons (relAgg rfl) .nil) trivial memNil .nil memNil trivial rfl ⟨(allFree_map mEntryV_free), trivial⟩ memNil rfl (by first | (simp only [V.mat, V.mat1, V.mat0, matL, matT, List.length_map]; done) | (simp only [V.mat, V.mat1, V.mat0, matL, matT, List.length_map]; rfl)) rfl rfl rfl rfl ?_
  refine s_alloc rfl rfl rfl zc43 rfl rfl rfl rfl rfl ?_
  refine s_storeB rfl rfl rfl ty43 rfl rfl rfl rfl rfl ?_
  refine rt_nil ?_
  refine tri_seq ?_
  refine tri_cutI (ι := { p : Bool // s_Keep_j0 p0 p1 p2 x1 p = some r0 }) (fun p => inv_s_Keep_0 p0 p1 p2 x1 p.1) ?_ ?_
  · skip
    refine tri_region ?_
    refine s_loadR rfl rfl rfl rfl ty32 rfl rfl rfl ?_
    refine bnd1_elim h fun x3 q4 h => ?_
    refine s_callN (kb := []) (ns := []) (v := .sc (.bool x3)) rfl rfl cl10 (ws_EntryOk p2 x3 q4) rfl (.cons (relAgg rfl) .nil) trivial memNil .nil memNil rfl trivial memNil rfl rfl rfl rfl rfl rfl ?_
    refine s_of (st_not rfl rfl) rfl rfl rfl rfl ?_
    refine s_mv (.inl rfl) (by conv => lhs; whnf) rfl rfl rfl ?_
    refine s_split (t := 15) rfl (fun b5 => ?_) (fun b5 => ?_)
    · replace h := cond_t h b5
      refine s_skip rfl rfl rfl ?_
      refine s_skip rfl rfl rfl ?_
      refine s_skip rfl rfl rfl ?_
      refine s_skip rfl rfl rfl ?_
      refine s_pickT rfl rfl (v := .sc (.bool true)) rfl rfl rfl rfl ?_
      refine rt_nil ?_
      refine Exists.intro ⟨true, h⟩ ?_
      refine entX [((3, 0), ⟨43, 2, [[.sc (.int .i64 p0.cap), .lst 6 (List.map mEntryV p0.l)]], false, true⟩, some (3, 0)), ((5, 0), ⟨32, 6, [[.sc (.string p2.q.name), .sc (.int .i64 p2.q.ty), .sc (.int .i64 p2.kind), .lst 6 (List.map recV p2.l), .sc (.int .i64 p2.rank), .sc (.int .i64 p2.til)]], false, true⟩, some (5, 0)), ((6, 0), ⟨43, 2, [[.sc (.int .i64 0), .nils]], false, true⟩, some (6, 0)), ((7, 0), ⟨43, 2, [[.sc (.int .i64 x1.cap), .ref (11, 1) 0 x1.l.length]], false, true⟩, some (7, 0)), ((11, 1), ⟨32, 6, List.map mEntryV x1.l, false, true⟩, some (11, 1))] [] ⟨⟨rfl, _, rfl, rfl, rfl, rfl, id, rowsCv_one (.cons (.free rfl) (.cons (.free rfl) .nil)), rowsZ_one rfl⟩, ⟨rfl, _, rfl, rfl, rfl, rfl, id, rowsCv_one (.cons (.free rfl) (.cons (.free rfl) (.cons (.free rfl) (.cons (.free rfl) (.cons (.free rfl) (.cons (.free rfl) .nil)))))), rowsZ_one rfl⟩, ⟨rfl, _, rfl, rfl, rfl, rfl, id, rowsCv_one (.cons (.free rfl) (.cons (.free rfl) .nil)), rowsZ_one rfl⟩, ⟨rfl, _, rfl, rfl, rfl, rfl, id, rowsCv_one (.cons (.free rfl) (.cons (.ref rfl) .nil)), rowsZ_one rfl⟩, ⟨rfl, _, rfl, rfl, rfl, rfl, id, rowsCv_eq rfl (allFree_map mEntryV_free), rowsZ_map mEntryV_len⟩, trivial⟩ trivial rfl rfl ?_
      exact ⟨(.free rfl), (.ptr rfl), (.ptr rfl), (.ptr rfl), (.ptr rfl), (.free rfl), trivial⟩
    · replace h := cond_f h b5
      refine s_loadR rfl rfl rfl rfl ty32 rfl rfl rfl ?_
      refine s_mv (.inl rfl) (by conv => lhs; whnf) rfl rfl rfl ?_
      refine bnd1_elim h fun x6 q7 h => ?_
      refine s_callN (kb := []) (ns := []) (v := .sc (.bool x6)) rfl rfl cl65 (ws_l15Lives p2 p1 x6 q7) rfl (.cons (relAgg rfl) (.cons (.free rfl) .nil)) trivial memNil .nil memNil rfl trivial memNil rfl rfl rfl rfl rfl rfl ?_
      refine s_of (st_not rfl rfl) rfl rfl rfl rfl ?_
      refine s_pickF rfl rfl (by conv => lhs; whnf) rfl rfl rfl ?_
      refine rt_nil ?_
      refine Exists.intro ⟨!x6, h⟩ ?_
      refine entX [((3, 0), ⟨43, 2, [[.sc (.int .i64 p0.cap), .lst 6 (List.map mEntryV p0.l)]], false, true⟩, some (3, 0)), ((5, 0), ⟨32, 6, [[.sc (.string p2.q.name), .sc (.int .i64 p2.q.ty), .sc (.int .i64 p2.kind), .lst 6 (List.map recV p2.l), .sc (.int .i64 p2.rank), .sc (.int .i64 p2.til)]], false, true⟩, some (5, 0)), ((6, 0), ⟨43, 2, [[.sc (.int .i64 0), .nils]], false, true⟩, some (6, 0)), ((7, 0), ⟨43, 2, [[.sc (.int .i64 x1.cap), .ref (11, 1) 0 x1.l.length]], false, true⟩, some (7, 0)), ((11, 1), ⟨32, 6, List.map mEntryV x1.l, false, true⟩, some (11, 1))] [] ⟨⟨rfl, _, rfl, rfl, rfl, rfl, id, rowsCv_one (.cons (.free rfl) (.cons (.free rfl) .nil)), rowsZ_one rfl⟩, ⟨rfl, _, rfl, rfl, rfl, rfl, id, rowsCv_one (.cons (.free rfl) (.cons (.free rfl) (.cons (.free rfl) (.cons (.free rfl) (.cons (.free rfl) (.cons (.free rfl) .nil)))))), rowsZ_one rfl⟩, ⟨rfl, _, rfl, rfl, rfl, rfl, id, rowsCv_one (.cons (.free rfl) (.cons (.free rfl) .nil)), rowsZ_one rfl⟩, ⟨rfl, _, rfl, rfl, rfl, rfl, id, rowsCv_one (.cons (.free rfl) (.cons (.ref rfl) .nil)), rowsZ_one rfl⟩, ⟨rfl, _, rfl, rfl, rfl, rfl, id, rowsCv_eq rfl (allFree_map mEntryV_free), rowsZ_map mEntryV_len⟩, trivial⟩ trivial rfl rfl ?_
      exact ⟨(.free rfl), (.ptr rfl), (.ptr rfl), (.ptr rfl), (.ptr rfl), (.free rfl), trivial⟩
  · rintro ⟨j0_0, h⟩
    replace h : s_Keep_j0 p0 p1 p2 x1 j0_0 = some r0 := h
    unfold s_Keep_j0 at h
    show Tri _ _ _ (inv_s_Keep_0 p0 p1 p2 x1 j0_0)
    refine tri_cond rfl (fun c3 => ?_) (fun c3 => ?_)
    · replace h := cond_t h c3
      refine tri_seq ?_
      refine tri_region ?_
      refine s_loadR rfl rfl rfl rfl ty43 rfl rfl rfl ?_
      refine s_storeB rfl rfl rfl ty43 rfl rfl rfl rfl rfl ?_
      refine rt_nil ?_
      refine tri_ret ?_
      have e0 := (some1 h); subst e0
      exact endY (v' := .agg [.sc (.int .i64 x1.cap), .ref (2000, 1) 0 x1.l.length]) [((2000, 1), ⟨32, 6, List.map mEntryV x1.l, false, true⟩, some (11, 1))] [] (rvC (resCell rfl rfl ty43) rvN) ⟨⟨rfl, _, rfl, rfl, rfl, rfl, id, rowsCv_eq rfl (allFree_map mEntryV_free), rowsZ_map mEntryV_len⟩, trivial⟩ trivial rfl rfl (by kernel_rfl) (by first | (simp only [V.mat, V.mat1, V.mat0, matL, matT, List.length_map]; done) | (simp only [V.mat, V.mat1, V.mat0, matL, matT, List.length_map]; rfl)) (CvL.agg (.cons (.free rfl) (.cons (.ref rfl) .nil)))
    · replace h := cond_f h c3
      refine tri_skip ?_
      refine tri_seq ?_
      refine tri_region ?_
      refine s_loadR rfl rfl rfl rfl ty32 rfl rfl rfl ?_
      refine bnd1_elim h fun x4 q5 h => ?_
      refine s_callNF (kb := []) (ns := []) (v := .agg [.sc (.string x4.q.name), .sc (.int .i64 x4.q.ty), .sc (.int .i64 x4.kind), .ref (23, 3) 0 x4.l.length, .sc (.int .i64 x4.rank), .sc (.int .i64 x4.til)]) (D := [(23, 3)]) rfl rfl cl66 (ws_l15Entry p2 x4 q5) rfl (.cons (relAgg rfl) .nil) trivial memNil .nil memNil rfl ⟨(allSc_map recV_sc), trivial⟩ memNil rfl (by first | (simp only [V.mat, V.mat1, V.mat0, matL, matT, List.length_map]; done) | (simp only [V.mat, V.mat1, V.mat0, matL, matT, List.length_map]; rfl)) rfl ⟨⟨rfl, rfl, _, rfl, rfl⟩, trivial⟩ (relAggL (.cons (.free rfl) (.cons (.free rfl) (.cons (.free rfl) (.cons (lendL rfl (.head _) rfl recV_free recV_len) (.cons (.free rfl) (.cons (.free rfl) .nil))))))) rfl rfl rfl ?_
      refine s_alloc rfl rfl rfl zc32 rfl rfl rfl rfl rfl ?_
      refine s_storeB rfl rfl rfl ty32 rfl rfl rfl rfl rfl ?_
      refine rt_nil ?_
      refine tri_seq ?_
      refine tri_region ?_
      refine s_loadR rfl rfl rfl rfl ty43 rfl rfl rfl ?_
      refine s_fieldAddr rfl rfl fd32_0 rfl rfl rfl rfl ?_
      refine s_load (v := .agg (questV p2.q)) rfl rfl rfl rfl ty29 rfl (.inl rfl) rfl rfl rfl rfl ?_
      refine bnd1_elim h fun x6 q7 h => ?_
      refine s_callN (kb := []) (ns := []) (v := .sc (.int .i64 x6)) rfl rfl cl54 (ws_l15At p0 p2.q x6 q7) rfl (.cons (relAgg rfl) (.cons (relAgg rfl) .nil)) trivial memNil .nil memNil rfl trivial memNil rfl rfl rfl rfl rfl rfl ?_
      refine s_mv (.inr rfl) (by conv => lhs; whnf) rfl rfl rfl ?_
      refine rt_nil ?_
      refine tri_seq ?_
      refine tri_seq ?_
      refine tri_region ?_
      refine s_mv (.inl rfl) (by conv => lhs; whnf) rfl rfl rfl ?_
      refine s_of (st_geq rfl rfl rfl) rfl rfl rfl rfl ?_
      refine rt_nil ?_
      refine tri_cond rfl (fun c8 => ?_) (fun c8 => ?_)
      · replace h := cond_t h c8
        refine tri_seq ?_
        refine tri_cutI (ι := { p : Bool // s_Keep_j1 x1 x4 x6 p = some r0 }) (fun p => inv_s_Keep_1 x1 x4 x6 p.1) ?_ ?_
        · skip
          refine tri_draw mixed ?_
          refine s_fieldAddr rfl rfl fd32_3 rfl rfl rfl rfl ?_
          refine s_load rfl rfl rfl rfl ty3 rfl (.inr rfl) (by conv => lhs; whnf) rfl rfl rfl ?_
          refine s_fieldAddr rfl rfl fd43_1 rfl rfl rfl rfl ?_
          refine s_load rfl rfl rfl rfl ty41 rfl (.inr rfl) (by conv => lhs; whnf) rfl rfl rfl ?_
          refine s_mv (.inl rfl) (by conv => lhs; whnf) rfl rfl rfl ?_
          refine bnd1_elim h fun x9 q10 h => ?_
          have q10a := (idx_some q10).1; have q10b := (idx_some q10).2
          refine s_indexFZ rfl rfl rfl sl41 q10a (get_ltM q10b) rfl rfl rfl ?_
          refine s_fieldAddrF rfl rfl fd32_3 rfl rfl rfl rfl ?_
          refine s_loadF rfl rfl (rowG q10b) ty3 rfl (.inr rfl) (by conv => lhs; whnf) rfl rfl rfl ?_
          refine s_of (st_geq rfl rfl rfl) rfl rfl rfl rfl ?_
          refine s_mv (.inl rfl) (by conv => lhs; whnf) rfl rfl rfl ?_
          refine s_split (t := 39) rfl (fun b11 => ?_) (fun b11 => ?_)
          · replace h := cond_t h b11
            refine s_skip rfl rfl rfl ?_
            refine s_skip rfl rfl rfl ?_
            refine s_skip rfl rfl rfl ?_
            refine s_skip rfl rfl rfl ?_
            refine s_skip rfl rfl rfl ?_
            refine s_skip rfl rfl rfl ?_
            refine s_skip rfl rfl rfl ?_
            refine s_skip rfl rfl rfl ?_
            refine s_pickT rfl rfl (v := .sc (.bool true)) rfl rfl rfl rfl ?_
            refine rt_nil ⟨by kernel_rfl, ?_⟩
            refine Exists.intro ⟨true, h⟩ ?_
            refine entX [((6, 0), ⟨43, 2, [[.sc (.int .i64 0), .nils]], false, true⟩, some (6, 0)), ((7, 0), ⟨43, 2, [[.sc (.int .i64 x1.cap), .ref (11, 1) 0 x1.l.length]], false, true⟩, some (7, 0)), ((11, 1), ⟨32, 6, List.map mEntryV x1.l, false, true⟩, some (11, 1)), ((8, 0), ⟨32, 6, [[.sc (.string x4.q.name), .sc (.int .i64 x4.q.ty), .sc (.int .i64 x4.kind), .lst 6 (List.map recV x4.l), .sc (.int .i64 x4.rank), .sc (.int .i64 x4.til)]], false, true⟩, some (8, 0))] [] ⟨⟨rfl, _, rfl, rfl, rfl, rfl, id, rowsCv_one (.cons (.free rfl) (.cons (.free rfl) .nil)), rowsZ_one rfl⟩, ⟨rfl, _, rfl, rfl, rfl, rfl, id, rowsCv_one (.cons (.free rfl) (.cons (.ref rfl) .nil)), rowsZ_one rfl⟩, ⟨rfl, _, rfl, rfl, rfl, rfl, id, rowsCv_eq rfl (allFree_map mEntryV_free), rowsZ_map mEntryV_len⟩, ⟨rfl, _, rfl, rfl, rfl, rfl, id, rowsCv_one (.cons (.free rfl) (.cons (.free rfl) (.cons (.free rfl) (.cons (.free rfl) (.cons (.free rfl) (.cons (.free rfl) .nil)))))), rowsZ_one rfl⟩, trivial⟩ trivial rfl rfl ?_
            exact ⟨(.ptr rfl), (.ptr rfl), (.ptr rfl), (.free rfl), (.free rfl), trivial⟩
          · replace h := cond_f h b11
            refine s_fieldAddr rfl rfl fd43_1 rfl rfl rfl rfl ?_
            refine s_load rfl rfl rfl rfl ty41 rfl (.inr rfl) (by conv => lhs; whnf) rfl rfl rfl ?_
            refine s_mv (.inl rfl) (by conv => lhs; whnf) rfl rfl rfl ?_
            refine s_indexFZ rfl rfl rfl sl41 q10a (get_ltM q10b) rfl rfl rfl ?_
            refine s_loadFR rfl rfl (rowG q10b) ty32 rfl rfl rfl ?_
            refine s_mv (.inl rfl) (by conv => lhs; whnf) rfl rfl rfl ?_
            refine bnd1_elim h fun x12 q13 h => ?_
            refine s_callN (kb := []) (ns := []) (v := .sc (.bool x12)) rfl rfl cl65 (ws_l15Lives x9 p1 x12 q13) rfl (.cons (relAgg rfl) (.cons (.free rfl) .nil)) trivial memNil .nil memNil rfl trivial memNil rfl rfl rfl rfl rfl rfl ?_
            refine s_of (st_not rfl rfl) rfl rfl rfl rfl ?_
            refine s_pickF rfl rfl (by conv => lhs; whnf) rfl rfl rfl ?_
            refine rt_nil ⟨by kernel_rfl, ?_⟩
            refine Exists.intro ⟨!x12, h⟩ ?_
            refine entX [((6, 0), ⟨43, 2, [[.sc (.int .i64 0), .nils]], false, true⟩, some (6, 0)), ((7, 0), ⟨43, 2, [[.sc (.int .i64 x1.cap), .ref (11, 1) 0 x1.l.length]], false, true⟩, some (7, 0)), ((11, 1), ⟨32, 6, List.map mEntryV x1.l, false, true⟩, some (11, 1)), ((8, 0), ⟨32, 6, [[.sc (.string x4.q.name), .sc (.int .i64 x4.q.ty), .sc (.int .i64 x4.kind), .lst 6 (List.map recV x4.l), .sc (.int .i64 x4.rank), .sc (.int .i64 x4.til)]], false, true⟩, some (8, 0))] [] ⟨⟨rfl, _, rfl, rfl, rfl, rfl, id, rowsCv_one (.cons (.free rfl) (.cons (.free rfl) .nil)), rowsZ_one rfl⟩, ⟨rfl, _, rfl, rfl, rfl, rfl, id, rowsCv_one (.cons (.free rfl) (.cons (.ref rfl) .nil)), rowsZ_one rfl⟩, ⟨rfl, _, rfl, rfl, rfl, rfl, id, rowsCv_eq rfl (allFree_map mEntryV_free), rowsZ_map mEntryV_len⟩, ⟨rfl, _, rfl, rfl, rfl, rfl, id, rowsCv_one (.cons (.free rfl) (.cons (.free rfl) (.cons (.free rfl) (.cons (.free rfl) (.cons (.free rfl) (.cons (.free rfl) .nil)))))), rowsZ_one rfl⟩, trivial⟩ trivial rfl rfl ?_
            exact ⟨(.ptr rfl), (.ptr rfl), (.ptr rfl), (.free rfl), (.free rfl), trivial⟩
        · rintro ⟨j1_0, h⟩
          replace h : s_Keep_j1 x1 x4 x6 j1_0 = some r0 := h
          unfold s_Keep_j1 at h
          show Tri _ _ _ (inv_s_Keep_1 x1 x4 x6 j1_0)
          refine tri_cond rfl (fun c9 => ?_) (fun c9 => ?_)
          · replace h := cond_t h c9
            refine tri_region ?_
            refine s_fieldAddr rfl rfl fd43_1 rfl rfl rfl rfl ?_
            refine s_load rfl rfl rfl rfl ty41 rfl (.inr rfl) (by conv => lhs; whnf) rfl rfl rfl ?_
            refine s_mv (.inl rfl) (by conv => lhs; whnf) rfl rfl rfl ?_
            refine s_loadR rfl rfl rfl rfl ty32 rfl rfl rfl ?_
            refine bnd1_elim h fun x10 q11 h => ?_
            have q11a := (idx_some q11).1; have q11b := (idx_some q11).2
            refine s_indexZ rfl rfl rfl rfl sl41 rfl q11a (get_lt q11b) rfl rfl rfl ?_
            refine s_storeL (x' := x4) rfl rfl rfl q11b ty32 rfl rfl rfl rfl rfl rfl ?_
            refine rt_nil ?_
            refine tri_seq ?_
            refine tri_region ?_
            refine s_loadR rfl rfl rfl rfl ty43 rfl rfl rfl ?_
            refine s_storeB rfl rfl rfl ty43 rfl rfl rfl rfl rfl ?_
            refine rt_nil ?_
            refine tri_ret ?_
            have e0 := (some1 h); subst e0
            exact endY (v' := .agg [.sc (.int .i64 x1.cap), .ref (2000, 1) 0 ((x1.l.set x6.toNat x4).length)]) [((2000, 1), ⟨32, 6, List.map mEntryV (x1.l.set x6.toNat x4), false, true⟩, some (11, 1))] [] (rvC (resCell rfl rfl ty43) rvN) ⟨⟨rfl, _, rfl, rfl, rfl, rfl, id, rowsCv_eq rfl (allFree_map mEntryV_free), rowsZ_map mEntryV_len⟩, trivial⟩ trivial rfl rfl (by kernel_rfl) (by first | (simp only [V.mat, V.mat1, V.mat0, matL, matT, List.length_map]; done) | (simp only [V.mat, V.mat1, V.mat0, matL, matT, List.length_map]; rfl)) (CvL.agg (.cons (.free rfl) (.cons (cvRefLen rfl (by simp only [List.length_set])) .nil)))
          · replace h := cond_f h c9
            refine tri_skip ?_
            refine tri_seq ?_
            refine tri_region ?_
            refine s_loadR rfl rfl rfl rfl ty43 rfl rfl rfl ?_
            refine s_storeB rfl rfl rfl ty43 rfl rfl rfl rfl rfl ?_
            refine rt_nil ?_
            refine tri_ret ?_
            have e0 := (some1 h); subst e0
            exact endY (v' := .agg [.sc (.int .i64 x1.cap), .ref (2000, 1) 0 x1.l.length]) [((2000, 1), ⟨32, 6, List.map mEntryV x1.l, false, true⟩, some (11, 1))] [] (rvC (resCell rfl rfl ty43) rvN) ⟨⟨rfl, _, rfl, rfl, rfl, rfl, id, rowsCv_eq rfl (allFree_map mEntryV_free), rowsZ_map mEntryV_len⟩, trivial⟩ trivial rfl rfl (by kernel_rfl) (by first | (simp only [V.mat, V.mat1, V.mat0, matL, matT, List.length_map]; done) | (simp only [V.mat, V.mat1, V.mat0, matL, matT, List.length_map]; rfl)) (CvL.agg (.cons (.free rfl) (.cons (.ref rfl) .nil)))
      · replace h := cond_f h c8
        refine tri_skip ?_
        refine tri_cutI (ι := { p : (List MEntry) // s_Keep_j2 x1 x4 p = some r0 }) (fun p => inv_s_Keep_2 x1 x4 p.1) ?_ ?_
        · skip
          refine tri_cutI (ι := { p : Bool // s_Keep_j3 x1 x4 p = some r0 }) (fun p => inv_s_Keep_3 x1 x4 p.1) ?_ ?_
          · skip
            refine tri_region ?_
            refine s_fieldAddr rfl rfl fd43_1 rfl rfl rfl rfl ?_
            refine s_load rfl rfl rfl rfl ty41 rfl (.inr rfl) (by conv => lhs; whnf) rfl rfl rfl ?_
            refine s_len (m := x1.l.length) rfl sl41 rfl rfl rfl rfl ?_
            refine s_of (st_gtr rfl rfl rfl) rfl rfl rfl rfl ?_
            refine s_mv (.inl rfl) (by conv => lhs; whnf) rfl rfl rfl ?_
            refine s_split (t := 59) rfl (fun b14 => ?_) (fun b14 => ?_)
            · replace h := cond_t h b14
              refine s_fieldAddr rfl rfl fd43_1 rfl rfl rfl rfl ?_
              refine s_load rfl rfl rfl rfl ty41 rfl (.inr rfl) (by conv => lhs; whnf) rfl rfl rfl ?_
              refine s_len (m := x1.l.length) rfl sl41 rfl rfl rfl rfl ?_
              refine s_fieldAddr rfl rfl fd43_0 rfl rfl rfl rfl ?_
              refine s_load rfl rfl rfl rfl ty3 rfl (.inr rfl) (by conv => lhs; whnf) rfl rfl rfl ?_
              refine s_of (st_geq rfl rfl rfl) rfl rfl rfl rfl ?_
              refine s_pickT rfl rfl (by conv => lhs; whnf) rfl rfl rfl ?_
              refine rt_nil ?_
              refine Exists.intro ⟨decide (p0.cap ≤ (x1.l.length : Int)), h⟩ ?_
              refine entX [((6, 0), ⟨43, 2, [[.sc (.int .i64 0), .nils]], false, true⟩, some (6, 0)), ((7, 0), ⟨43, 2, [[.sc (.int .i64 x1.cap), .ref (11, 1) 0 x1.l.length]], false, true⟩, some (7, 0)), ((11, 1), ⟨32, 6, List.map mEntryV x1.l, false, true⟩, some (11, 1)), ((8, 0), ⟨32, 6, [[.sc (.string x4.q.name), .sc (.int .i64 x4.q.ty), .sc (.int .i64 x4.kind), .lst 6 (List.map recV x4.l), .sc (.int .i64 x4.rank), .sc (.int .i64 x4.til)]], false, true⟩, some (8, 0))] [] ⟨⟨rfl, _, rfl, rfl, rfl, rfl, id, rowsCv_one (.cons (.free rfl) (.cons (.free rfl) .nil)), rowsZ_one rfl⟩, ⟨rfl, _, rfl, rfl, rfl, rfl, id, rowsCv_one (.cons (.free rfl) (.cons (.ref rfl) .nil)), rowsZ_one rfl⟩, ⟨rfl, _, rfl, rfl, rfl, rfl, id, rowsCv_eq rfl (allFree_map mEntryV_free), rowsZ_map mEntryV_len⟩, ⟨rfl, _, rfl, rfl, rfl, rfl, id, rowsCv_one (.cons (.free rfl) (.cons (.free rfl) (.cons (.free rfl) (.cons (.free rfl) (.cons (.free rfl) (.cons (.free rfl) .nil)))))), rowsZ_one rfl⟩, trivial⟩ trivial rfl rfl ?_
              exact ⟨(.ptr rfl), (.ptr rfl), (.ptr rfl), (.free rfl), trivial⟩
            · replace h := cond_f h b14
              refine s_skip rfl rfl rfl ?_
              refine s_skip rfl rfl rfl ?_
              refine s_skip rfl rfl rfl ?_
              refine s_skip rfl rfl rfl ?_
              refine s_skip rfl rfl rfl ?_
              refine s_skip rfl rfl rfl ?_
              refine s_pickF rfl rfl (v := .sc (.bool false)) rfl rfl rfl rfl ?_
              refine rt_nil ?_
              refine Exists.intro ⟨false, h⟩ ?_
              refine entX [((6, 0), ⟨43, 2, [[.sc (.int .i64 0), .nils]], false, true⟩, some (6, 0)), ((7, 0), ⟨43, 2, [[.sc (.int .i64 x1.cap), .ref (11, 1) 0 x1.l.length]], false, true⟩, some (7, 0)), ((11, 1), ⟨32, 6, List.map mEntryV x1.l, false, true⟩, some (11, 1)), ((8, 0), ⟨32, 6, [[.sc (.string x4.q.name), .sc (.int .i64 x4.q.ty), .sc (.int .i64 x4.kind), .lst 6 (List.map recV x4.l), .sc (.int .i64 x4.rank), .sc (.int .i64 x4.til)]], false, true⟩, some (8, 0))] [] ⟨⟨rfl, _, rfl, rfl, rfl, rfl, id, rowsCv_one (.cons (.free rfl) (.cons (.free rfl) .nil)), rowsZ_one rfl⟩, ⟨rfl, _, rfl, rfl, rfl, rfl, id, rowsCv_one (.cons (.free rfl) (.cons (.ref rfl) .nil)), rowsZ_one rfl⟩, ⟨rfl, _, rfl, rfl, rfl, rfl, id, rowsCv_eq rfl (allFree_map mEntryV_free), rowsZ_map mEntryV_len⟩, ⟨rfl, _, rfl, rfl, rfl, rfl, id, rowsCv_one (.cons (.free rfl) (.cons (.free rfl) (.cons (.free rfl) (.cons (.free rfl) (.cons (.free rfl) (.cons (.free rfl) .nil)))))), rowsZ_one rfl⟩, trivial⟩ trivial rfl rfl ?_
              exact ⟨(.ptr rfl), (.ptr rfl), (.ptr rfl), (.free rfl), trivial⟩
          · rintro ⟨j3_0, h⟩
            replace h : s_Keep_j3 x1 x4 j3_0 = some r0 := h
            unfold s_Keep_j3 at h
            show Tri _ _ _ (inv_s_Keep_3 x1 x4 j3_0)
            refine tri_cond rfl (fun c14 => ?_) (fun c14 => ?_)
            · replace h := cond_t h c14
              refine tri_seq ?_
              refine tri_region ?_
              refine s_loadR rfl rfl rfl rfl ty43 rfl rfl rfl ?_
              refine bnd1_elim h fun x15 q16 h => ?_
              refine s_callN (kb := [(11, 1)]) (ns := []) (v := .sc (.int .i64 x15)) rfl rfl cl80 (ws_l15Oldest x1 x15 q16) rfl (.cons (relAggL (.cons (.free rfl) (.cons (lendL rfl (.head _) rfl mEntryV_free mEntryV_len) .nil))) .nil) trivial memNil .nil (fun _ _ => List.not_mem_nil) rfl trivial memNil rfl rfl rfl rfl rfl rfl ?_
              refine s_mv (.inr rfl) (by conv => lhs; whnf) rfl rfl rfl ?_
              refine rt_nil ?_
              refine tri_draw mixed ?_
              refine s_buildSlice (rows' := List.map mEntryV ([] : List MEntry)) rfl rfl rfl sl41 zc32 rfl rfl rfl rfl rfl rfl rfl rfl rfl ?_
              refine s_fieldAddr rfl rfl fd43_1 rfl rfl rfl rfl ?_
              refine s_load rfl rfl rfl rfl ty41 rfl (.inr rfl) (by conv => lhs; whnf) rfl rfl rfl ?_
              refine s_mv (.inl rfl) (by conv => lhs; whnf) rfl rfl rfl ?_
              refine grd_elim h fun g17 h => ?_
              refine s_sliceZ (a := ((0 : Nat) : Int)) (b := x15) rfl rfl rfl sl41 rfl rfl ⟨_, rfl⟩ g17 rfl rfl rfl ?_
              refine grd_elim h fun g18 h => ?_
              refine s_appL rfl rfl rfl sl41 zc32 rfl rfl rfl rfl rfl rfl (src_refV rfl (by first | omega | (simp only [List.length_set]; omega))) g18 rfl rfl ?_
              refine s_fieldAddr rfl rfl fd43_1 rfl rfl rfl rfl ?_
              refine s_load rfl rfl rfl rfl ty41 rfl (.inr rfl) (by conv => lhs; whnf) rfl rfl rfl ?_
              refine s_mv (.inl rfl) (by conv => lhs; whnf) rfl rfl rfl ?_
              refine grd_elim h fun g19 h => ?_
              refine s_addI rfl rfl rfl rfl g19 rfl rfl rfl ?_
              refine grd_elim h fun g20 h => ?_
              refine s_sliceZ (a := x15 + 1) (b := (x1.l.length : Int)) rfl rfl rfl sl41 rfl ⟨_, rfl⟩ rfl g20 rfl rfl rfl ?_
              refine grd_elim h fun g21 h => ?_
              refine s_appL rfl rfl rfl sl41 zc32 rfl rfl rfl rfl rfl rfl (src_refV rfl (by first | omega | (simp only [List.length_set]; omega))) g21 rfl rfl ?_
              refine s_fieldAddr rfl rfl fd43_1 rfl rfl rfl rfl ?_
              refine s_store (rows' := [[.sc (.int .i64 x1.cap), .ref (80, 0) 0 (((([] : List MEntry) ++ ((x1.l.drop (0 + ((0 : Nat) : Int).toNat)).take (x15.toNat - ((0 : Nat) : Int).toNat))) ++ ((x1.l.drop (0 + (x15 + 1).toNat)).take ((x1.l.length : Int).toNat - (x15 + 1).toNat))).length)]]) rfl rfl rfl rfl ty41 rfl rfl rfl rfl rfl rfl ?_
              refine rt_nil ⟨by kernel_rfl, ?_⟩
              refine Exists.intro ⟨(([] : List MEntry) ++ ((x1.l.drop (0 + ((0 : Nat) : Int).toNat)).take (x15.toNat - ((0 : Nat) : Int).toNat))) ++ ((x1.l.drop (0 + (x15 + 1).toNat)).take ((x1.l.length : Int).toNat - (x15 + 1).toNat)), h⟩ ?_
              refine entX [((6, 0), ⟨43, 2, [[.sc (.int .i64 0), .nils]], false, true⟩, some (6, 0)), ((7, 0), ⟨43, 2, [[.sc (.int .i64 x1.cap), .ref (2007, 2) 0 ((([] : List MEntry) ++ ((x1.l.drop (0 + ((0 : Nat) : Int).toNat)).take (x15.toNat - ((0 : Nat) : Int).toNat))) ++ ((x1.l.drop (0 + (x15 + 1).toNat)).take ((x1.l.length : Int).toNat - (x15 + 1).toNat))).length]], false, true⟩, some (7, 0)), ((2007, 2), ⟨32, 6, List.map mEntryV ((([] : List MEntry) ++ ((x1.l.drop (0 + ((0 : Nat) : Int).toNat)).take (x15.toNat - ((0 : Nat) : Int).toNat))) ++ ((x1.l.drop (0 + (x15 + 1).toNat)).take ((x1.l.length : Int).toNat - (x15 + 1).toNat))), false, true⟩, some (80, 0)), ((8, 0), ⟨32, 6, [[.sc (.string x4.q.name), .sc (.int .i64 x4.q.ty), .sc (.int .i64 x4.kind), .lst 6 (List.map recV x4.l), .sc (.int .i64 x4.rank), .sc (.int .i64 x4.til)]], false, true⟩, some (8, 0))] [] ⟨⟨rfl, _, rfl, rfl, rfl, rfl, id, rowsCv_one (.cons (.free rfl) (.cons (.free rfl) .nil)), rowsZ_one rfl⟩, ⟨rfl, _, rfl, rfl, rfl, rfl, id, rowsCv_one (.cons (.free rfl) (.cons (.ref rfl) .nil)), rowsZ_one rfl⟩, ⟨rfl, _, rfl, rfl, rfl, rfl, id, rowsCv_eq rfl (allFree_map mEntryV_free), rowsZ_map mEntryV_len⟩, ⟨rfl, _, rfl, rfl, rfl, rfl, id, rowsCv_one (.cons (.free rfl) (.cons (.free rfl) (.cons (.free rfl) (.cons (.free rfl) (.cons (.free rfl) (.cons (.free rfl) .nil)))))), rowsZ_one rfl⟩, trivial⟩ trivial rfl rfl ?_
              exact ⟨(.ptr rfl), (.ptr rfl), (.ptr rfl), trivial⟩
            · replace h := cond_f h c14
              refine tri_skip ?_
              refine Exists.intro ⟨x1.l, h⟩ ?_
              refine entX [((6, 0), ⟨43, 2, [[.sc (.int .i64 0), .nils]], false, true⟩, some (6, 0)), ((7, 0), ⟨43, 2, [[.sc (.int .i64 x1.cap), .ref (2007, 2) 0 x1.l.length]], false, true⟩, some (7, 0)), ((2007, 2), ⟨32, 6, List.map mEntryV x1.l, false, true⟩, some (11, 1)), ((8, 0), ⟨32, 6, [[.sc (.string x4.q.name), .sc (.int .i64 x4.q.ty), .sc (.int .i64 x4.kind), .lst 6 (List.map recV x4.l), .sc (.int .i64 x4.rank), .sc (.int .i64 x4.til)]], false, true⟩, some (8, 0))] [] ⟨⟨rfl, _, rfl, rfl, rfl, rfl, id, rowsCv_one (.cons (.free rfl) (.cons (.free rfl) .nil)), rowsZ_one rfl⟩, ⟨rfl, _, rfl, rfl, rfl, rfl, id, rowsCv_one (.cons (.free rfl) (.cons (.ref rfl) .nil)), rowsZ_one rfl⟩, ⟨rfl, _, rfl, rfl, rfl, rfl, id, rowsCv_eq rfl (allFree_map mEntryV_free), rowsZ_map mEntryV_len⟩, ⟨rfl, _, rfl, rfl, rfl, rfl, id, rowsCv_one (.cons (.free rfl) (.cons (.free rfl) (.cons (.free rfl) (.cons (.free rfl) (.cons (.free rfl) (.cons (.free rfl) .nil)))))), rowsZ_one rfl⟩, trivial⟩ trivial rfl rfl ?_
              exact ⟨(.ptr rfl), (.ptr rfl), (.ptr rfl), trivial⟩
        · rintro ⟨j2_0, h⟩
          replace h : s_Keep_j2 x1 x4 j2_0 = some r0 := h
          unfold s_Keep_j2 at h
          show Tri _ _ _ (inv_s_Keep_2 x1 x4 j2_0)
          refine tri_seq ?_
          refine tri_region ?_
          refine s_fieldAddr rfl rfl fd43_1 rfl rfl rfl rfl ?_
          refine s_load rfl rfl rfl rfl ty41 rfl (.inr rfl) (by conv => lhs; whnf) rfl rfl rfl ?_
          refine s_loadR rfl rfl rfl rfl ty32 rfl rfl rfl ?_
          refine s_buildSlice (rows' := List.map mEntryV [x4]) rfl rfl rfl sl41 zc32 rfl rfl rfl rfl rfl rfl rfl rfl rfl ?_
          refine grd_elim h fun g14 h => ?_
          refine s_appL rfl rfl rfl sl41 zc32 rfl rfl rfl rfl rfl rfl (src_refL rfl rfl) g14 rfl rfl ?_
          refine s_fieldAddr rfl rfl fd43_1 rfl rfl rfl rfl ?_
          refine s_store (rows' := [[.sc (.int .i64 x1.cap), .ref (86, 0) 0 ((j2_0 ++ [x4]).length)]]) rfl rfl rfl rfl ty41 rfl rfl rfl rfl rfl rfl ?_
          refine rt_nil ?_
          refine tri_seq ?_
          refine tri_region ?_
          refine s_loadR rfl rfl rfl rfl ty43 rfl rfl rfl ?_
          refine s_storeB rfl rfl rfl ty43 rfl rfl rfl rfl rfl ?_
          refine rt_nil ?_
          refine tri_ret ?_
          have e0 := (some1 h); subst e0
          exact endY (v' := .agg [.sc (.int .i64 x1.cap), .ref (2000, 1) 0 ((j2_0 ++ [x4]).length)]) [((2000, 1), ⟨32, 6, List.map mEntryV (j2_0 ++ [x4]), false, true⟩, some (86, 0))] [] (rvC (resCell rfl rfl ty43) rvN) ⟨⟨rfl, _, rfl, rfl, rfl, rfl, id, rowsCv_eq rfl (allFree_map mEntryV_free), rowsZ_map mEntryV_len⟩, trivial⟩ trivial rfl rfl (by kernel_rfl) (by first | (simp only [V.mat, V.mat1, V.mat0, matL, matT, List.length_map]; done) | (simp only [V.mat, V.mat1, V.mat0, matL, matT, List.length_map]; rfl)) (CvL.agg (.cons (.free rfl) (.cons (.ref rfl) .nil)))

/- spec.l15Cache -/
def inv_s_l15Cache_0  (v0_0 : List Int) (v0_1 : Int) (v0_2 : Int) (v0_3 : Int) (v0_4 : List MEntry) (v0_5 : Int) : St := mkT 22 [(0, .ptr (1000, 0) 0 0), (2, .ptr (2, 0) 0 0), (3, .ptr (3, 0) 0 0), (4, .sc (.int .i64 v0_5))] [((1000, 0), some ⟨115, 3, [[.lst 1 (List.map byteV v0_0), .sc (.int .i64 v0_1), .sc (.int .i64 v0_2)]], false, false⟩), ((2, 0), some ⟨43, 2, [[.sc (.int .i64 0), .nils]], false, true⟩), ((3, 0), some ⟨43, 2, [[.sc (.int .i64 v0_3), .ref (2003, 2) 0 v0_4.length]], false, true⟩), ((2003, 2), some ⟨32, 6, List.map mEntryV v0_4, false, true⟩)]
set_option maxRecDepth 4000 in
set_option maxHeartbeats 800000 in
theorem ws_l15Cache (p0 : Cur) (r0 : MCache) (r1 : Cur) (h : s_l15Cache p0 = some (r0, r1)) : Runs Tryd.prog 100 [.ptr (1000, 0) 0 0] [⟨115, 3, [[.lst 1 (List.map byteV p0.b), .sc (.int .i64 p0.i), .sc (.int .i64 p0.h)]], false, false⟩] (.agg [.sc (.int .i64 r0.cap), .own 32 6 (List.map mEntryV r0.l)]) [⟨115, 3, [[.lst 1 (List.map byteV r1.b), .sc (.int .i64 r1.i), .sc (.int .i64 r1.h)]], false, false⟩] := by
  unfold s_l15Cache at h
  refine runsR [.cell 2 43] Tryd.func100 rfl rfl rfl rfl ?_
  rw [Tryd.ntmps100]
  refine tri_seq ?_
  refine tri_region ?_
  refine s_alloc rfl rfl rfl zc43 rfl rfl rfl rfl rfl ?_
  refine rt_nil ?_
  refine tri_seq ?_
  refine tri_region ?_
  refine s_mv (.inl rfl) (by conv => lhs; whnf) rfl rfl rfl ?_
  refine bnd2_elim h fun x1 x2 q3 h => ?_
  refine s_callZ (kb := []) (ns := [(1000, 0)]) (v := .sc (.int .i64 x1)) rfl rfl cl61 (ws_l1Below p0 6 x1 x2 q3) rfl (.cons (.ptrOwn rfl) (.cons (.free rfl) .nil)) ⟨⟨_, rfl, rfl⟩, trivial⟩ (memCons (allFree_one rfl) memNil) (List.nodup_cons.2 ⟨List.not_mem_nil, .nil⟩) memNil trivial rfl trivial (memCons (allFree_one rfl) memNil) rfl rfl rfl rfl rfl rfl ?_
  refine grd_elim h fun g4 h => ?_
  refine s_addI rfl rfl rfl rfl g4 rfl rfl rfl ?_
  refine bnd1_elim h fun x5 q6 h => ?_
  refine s_callZ (kb := []) (ns := []) (v := .agg [.sc (.int .i64 x5.cap), .ref (8, 1) 0 x5.l.length]) rfl rfl cl31 (ws_CacheNew (1 + x1) x5 q6) rfl (.cons (.free rfl) .nil) trivial memNil .nil memNil trivial rfl ⟨(allFree_map mEntryV_free), trivial⟩ memNil rfl (by first | (simp only [V.mat, V.mat1, V.mat0, matL, matT, List.length_map]; done) | (simp only [V.mat, V.mat1, V.mat0, matL, matT, List.length_map]; rfl)) rfl rfl rfl rfl ?_
  refine s_alloc rfl rfl rfl zc43 rfl rfl rfl rfl rfl ?_
  refine s_storeB rfl rfl rfl ty43 rfl rfl rfl rfl rfl ?_
  refine rt_nil ?_
  refine tri_seq ?_
  refine tri_seq ?_
  refine tri_region ?_
  refine s_mv (.inl rfl) (by conv => lhs; whnf) rfl rfl rfl ?_
  refine bnd2_elim h fun x7 x8 q9 h => ?_
  refine s_callZ (kb := []) (ns := [(1000, 0)]) (v := .sc (.int .i64 x7)) rfl rfl cl61 (ws_l1Below x2 8 x7 x8 q9) rfl (.cons (.ptrOwn rfl) (.cons (.free rfl) .nil)) ⟨⟨_, rfl, rfl⟩, trivial⟩ (memCons (allFree_one rfl) memNil) (List.nodup_cons.2 ⟨List.not_mem_nil, .nil⟩) memNil trivial rfl trivial (memCons (allFree_one rfl) memNil) rfl rfl rfl rfl rfl rfl ?_
  refine s_mv (.inr rfl) (by conv => lhs; whnf) rfl rfl rfl ?_
  refine rt_nil ?_
  refine tri_block ?_
  refine tri_loop (ι := { p : Nat × (List Int) × Int × Int × Int × (List MEntry) × Int // s_l15Cache_l0 p.1 p.2.1 p.2.2.1 p.2.2.2.1 p.2.2.2.2.1 p.2.2.2.2.2.1 p.2.2.2.2.2.2 = some (r0, r1) }) (fun p => inv_s_l15Cache_0 p.1.2.1 p.1.2.2.1 p.1.2.2.2.1 p.1.2.2.2.2.1 p.1.2.2.2.2.2.1 p.1.2.2.2.2.2.2) (fun p => p.1.1) ⟨(fuel0, x8.b, x8.i, x8.h, x5.cap, x5.l, x7), h⟩ ?_ ?_
  · skip
    refine entX [((1000, 0), ⟨115, 3, [[.lst 1 (List.map byteV x8.b), .sc (.int .i64 x8.i), .sc (.int .i64 x8.h)]], false, false⟩, some (1000, 0)), ((2, 0), ⟨43, 2, [[.sc (.int .i64 0), .nils]], false, true⟩, some (2, 0)), ((3, 0), ⟨43, 2, [[.sc (.int .i64 x5.cap), .ref (2003, 2) 0 x5.l.length]], false, true⟩, some (3, 0)), ((2003, 2), ⟨32, 6, List.map mEntryV x5.l, false, true⟩, some (8, 1))] [] ⟨⟨rfl, _, rfl, rfl, rfl, rfl, id, rowsCv_one (.cons (.free rfl) (.cons (.free rfl) (.cons (.free rfl) .nil))), rowsZ_one rfl⟩, ⟨rfl, _, rfl, rfl, rfl, rfl, id, rowsCv_one (.cons (.free rfl) (.cons (.free rfl) .nil)), rowsZ_one rfl⟩, ⟨rfl, _, rfl, rfl, rfl, rfl, id, rowsCv_one (.cons (.free rfl) (.cons (.ref rfl) .nil)), rowsZ_one rfl⟩, ⟨rfl, _, rfl, rfl, rfl, rfl, id, rowsCv_eq rfl (allFree_map mEntryV_free), rowsZ_map mEntryV_len⟩, trivial⟩ trivial rfl rfl ?_
    exact ⟨(.ptr rfl), (.ptr rfl), (.ptr rfl), (.free rfl), trivial⟩
  · rintro ⟨⟨f0, v0_0, v0_1, v0_2, v0_3, v0_4, v0_5⟩, h⟩
    replace h : s_l15Cache_l0 f0 v0_0 v0_1 v0_2 v0_3 v0_4 v0_5 = some (r0, r1) := h
    cases f0 with
    | zero => cases h
    | succ f0 =>
    rw [s_l15Cache_l0] at h
    show Tri _ _ _ (inv_s_l15Cache_0 v0_0 v0_1 v0_2 v0_3 v0_4 v0_5)
    refine tri_seq ?_
    refine tri_seq ?_
    refine tri_region ?_
    refine s_mv (.inl rfl) (by conv => lhs; whnf) rfl rfl rfl ?_
    refine s_of (st_gtr rfl rfl rfl) rfl rfl rfl rfl ?_
    refine rt_nil ?_
    refine tri_cond rfl (fun c10 => ?_) (fun c10 => ?_)
    · replace h := cond_t h c10
      refine tri_skip ?_
      refine tri_seq ?_
      refine tri_block ?_
      refine tri_draw mixed ?_
      refine s_loadR rfl rfl rfl rfl ty43 rfl rfl rfl ?_
      refine s_mv (.inl rfl) (by conv => lhs; whnf) rfl rfl rfl ?_
      refine bnd2_elim h fun x11 x12 q13 h => ?_
      refine s_callZ (kb := []) (ns := [(1000, 0)]) (v := .sc (.int .i64 x11)) rfl rfl cl61 (ws_l1Below (Cur.mk v0_0 v0_1 v0_2) 9 x11 x12 q13) rfl (.cons (.ptrOwn rfl) (.cons (.free rfl) .nil)) ⟨⟨_, rfl, rfl⟩, trivial⟩ (memCons (allFree_one rfl) memNil) (List.nodup_cons.2 ⟨List.not_mem_nil, .nil⟩) memNil trivial rfl trivial (memCons (allFree_one rfl) memNil) rfl rfl rfl rfl rfl rfl ?_
      refine s_mv (.inl rfl) (by conv => lhs; whnf) rfl rfl rfl ?_
      refine bnd2_elim h fun x14 x15 q16 h => ?_
      refine s_callZ (kb := []) (ns := [(1000, 0)]) (v := .agg [.sc (.string x14.q.name), .sc (.int .i64 x14.q.ty), .sc (.int .i64 x14.kind), .ref (19, 3) 0 x14.l.length, .sc (.int .i64 x14.rank), .sc (.int .i64 x14.til)]) rfl rfl cl106 (ws_l15Draw x12 x14 x15 q16) rfl (.cons (.ptrOwn rfl) .nil) ⟨⟨_, rfl, rfl⟩, trivial⟩ (memCons (allFree_one rfl) memNil) (List.nodup_cons.2 ⟨List.not_mem_nil, .nil⟩) memNil trivial rfl ⟨(allFree_map recV_free), trivial⟩ (memCons (allFree_one rfl) memNil) rfl (by first | (simp only [V.mat, V.mat1, V.mat0, matL, matT, List.length_map]; done) | (simp only [V.mat, V.mat1, V.mat0, matL, matT, List.length_map]; rfl)) rfl rfl rfl rfl ?_
      refine bnd1_elim h fun x17 q18 h => ?_
      refine s_callZ (kb := [(2003, 2), (19, 3)]) (ns := []) (v := .agg [.sc (.int .i64 x17.cap), .ref (20, 1) 0 x17.l.length]) rfl rfl cl34 (ws_Keep (MCache.mk v0_3 v0_4) x11 x14 x17 q18) rfl (.cons (relAggL (.cons (.free rfl) (.cons (lendL rfl (.head _) rfl mEntryV_free mEntryV_len) .nil))) (.cons (.free rfl) (.cons (relAggL (.cons (.free rfl) (.cons (.free rfl) (.cons (.free rfl) (.cons (lendL rfl (.tail _ (.head _)) rfl recV_free recV_len) (.cons (.free rfl) (.cons (.free rfl) .nil))))))) .nil))) trivial memNil .nil (fun _ _ => List.not_mem_nil) ⟨⟨_, rfl, rfl⟩, ⟨⟨_, rfl, rfl⟩, trivial⟩⟩ rfl ⟨(allFree_map mEntryV_free), trivial⟩ memNil rfl (by first | (simp only [V.mat, V.mat1, V.mat0, matL, matT, List.length_map]; done) | (simp only [V.mat, V.mat1, V.mat0, matL, matT, List.length_map]; rfl)) rfl rfl rfl rfl ?_
      refine s_storeB rfl rfl rfl ty43 rfl rfl rfl rfl rfl ?_
      refine rt_nil ⟨by kernel_rfl, ?_⟩
      refine tri_region ?_
      refine s_mv (.inl rfl) (by conv => lhs; whnf) rfl rfl rfl ?_
      refine grd_elim h fun g19 h => ?_
      refine s_subI rfl rfl rfl rfl g19 rfl rfl rfl ?_
      refine s_mv (.inr rfl) (by conv => lhs; whnf) rfl rfl rfl ?_
      refine rt_nil ?_
      refine Exists.intro ⟨(f0, x15.b, x15.i, x15.h, x17.cap, x17.l, v0_5 - 1), h⟩ (And.intro (Nat.lt_succ_self _) ?_)
      refine entX [((1000, 0), ⟨115, 3, [[.lst 1 (List.map byteV x15.b), .sc (.int .i64 x15.i), .sc (.int .i64 x15.h)]], false, false⟩, some (1000, 0)), ((2, 0), ⟨43, 2, [[.sc (.int .i64 0), .nils]], false, true⟩, some (2, 0)), ((3, 0), ⟨43, 2, [[.sc (.int .i64 x17.cap), .ref (2003, 2) 0 x17.l.length]], false, true⟩, some (3, 0)), ((2003, 2), ⟨32, 6, List.map mEntryV x17.l, false, true⟩, some (20, 1))] [] ⟨⟨rfl, _, rfl, rfl, rfl, rfl, id, rowsCv_one (.cons (.free rfl) (.cons (.free rfl) (.cons (.free rfl) .nil))), rowsZ_one rfl⟩, ⟨rfl, _, rfl, rfl, rfl, rfl, id, rowsCv_one (.cons (.free rfl) (.cons (.free rfl) .nil)), rowsZ_one rfl⟩, ⟨rfl, _, rfl, rfl, rfl, rfl, id, rowsCv_one (.cons (.free rfl) (.cons (.ref rfl) .nil)), rowsZ_one rfl⟩, ⟨rfl, _, rfl, rfl, rfl, rfl, id, rowsCv_eq rfl (allFree_map mEntryV_free), rowsZ_map mEntryV_len⟩, trivial⟩ trivial rfl rfl ?_
      exact ⟨(.ptr rfl), (.ptr rfl), (.ptr rfl), (.free rfl), trivial⟩
    · replace h := cond_f h c10
      refine tri_exit ?_
      refine tri_seq ?_
      refine tri_region ?_
      refine s_loadR rfl rfl rfl rfl ty43 rfl rfl rfl ?_
      refine s_storeB rfl rfl rfl ty43 rfl rfl rfl rfl rfl ?_
      refine rt_nil ?_
      refine tri_ret ?_
      have e0 := (some2 h).1; have e1 := (some2 h).2; subst e0; subst e1
      exact endY (v' := .agg [.sc (.int .i64 v0_3), .ref (2000, 1) 0 v0_4.length]) [((2000, 1), ⟨32, 6, List.map mEntryV v0_4, false, true⟩, some (2003, 2)), ((1000, 0), ⟨115, 3, [[.lst 1 (List.map byteV v0_0), .sc (.int .i64 v0_1), .sc (.int .i64 v0_2)]], false, false⟩, some (1000, 0))] [] (rvC (resCell rfl rfl ty43) rvN) ⟨⟨rfl, _, rfl, rfl, rfl, rfl, id, rowsCv_eq rfl (allFree_map mEntryV_free), rowsZ_map mEntryV_len⟩, ⟨rfl, _, rfl, rfl, rfl, rfl, id, rowsCv_one (.cons (.free rfl) (.cons (.free rfl) (.cons (.free rfl) .nil))), rowsZ_one rfl⟩, trivial⟩ trivial rfl rfl (by kernel_rfl) (by first | (simp only [V.mat, V.mat1, V.mat0, matL, matT, List.length_map]; done) | (simp only [V.mat, V.mat1, V.mat0, matL, matT, List.length_map]; rfl)) (CvL.agg (.cons (.free rfl) (.cons (.ref rfl) .nil)))

end Go.Abs.M
