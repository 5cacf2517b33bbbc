/- Walks of the functions that the law of ReplyAt reaches: what each of them computes, where its pure function does not fail. -/
import Derived.Test.YtbkmnbpgpklojaaGreatDoorFnsReplyAt
import Derived.Test.YtbkmnbpgpklojaaGreatDoorChecked
set_option linter.unusedSimpArgs false
set_option linter.unusedVariables false
namespace Go.Abs.M
open Go Go.Abs Go.Proofs
theorem cl100 : callable Tryz.prog 100 = true := by kernel_rfl
theorem cl101 : callable Tryz.prog 101 = true := by kernel_rfl
theorem cl118 : callable Tryz.prog 118 = true := by kernel_rfl
theorem cl119 : callable Tryz.prog 119 = true := by kernel_rfl
theorem cl120 : callable Tryz.prog 120 = true := by kernel_rfl
theorem cl121 : callable Tryz.prog 121 = true := by kernel_rfl
theorem cl125 : callable Tryz.prog 125 = true := by kernel_rfl
theorem cl126 : callable Tryz.prog 126 = true := by kernel_rfl
theorem cl127 : callable Tryz.prog 127 = true := by kernel_rfl
theorem cl144 : callable Tryz.prog 144 = true := by kernel_rfl
theorem cl145 : callable Tryz.prog 145 = true := by kernel_rfl
theorem cl160 : callable Tryz.prog 160 = true := by kernel_rfl
theorem cl161 : callable Tryz.prog 161 = true := by kernel_rfl
theorem cl171 : callable Tryz.prog 171 = true := by kernel_rfl
theorem cl40 : callable Tryz.prog 40 = true := by kernel_rfl
theorem cl49 : callable Tryz.prog 49 = true := by kernel_rfl
theorem cl63 : callable Tryz.prog 63 = true := by kernel_rfl
theorem cl64 : callable Tryz.prog 64 = true := by kernel_rfl
theorem cl65 : callable Tryz.prog 65 = true := by kernel_rfl
theorem cl66 : callable Tryz.prog 66 = true := by kernel_rfl
theorem cl70 : callable Tryz.prog 70 = true := by kernel_rfl
theorem cl71 : callable Tryz.prog 71 = true := by kernel_rfl
theorem cl72 : callable Tryz.prog 72 = true := by kernel_rfl
theorem cl73 : callable Tryz.prog 73 = true := by kernel_rfl
theorem cl97 : callable Tryz.prog 97 = true := by kernel_rfl
theorem cl98 : callable Tryz.prog 98 = true := by kernel_rfl
theorem cl99 : callable Tryz.prog 99 = true := by kernel_rfl
theorem fd133_0 : fldTy Tryz.prog 133 0 = some (0, 0 + 1, false) := by kernel_rfl
theorem fd133_1 : fldTy Tryz.prog 133 1 = some (1, 0 + 1, false) := by kernel_rfl
theorem fd136_0 : fldTy Tryz.prog 136 0 = some (0, 0 + 1, false) := by kernel_rfl
theorem fd136_1 : fldTy Tryz.prog 136 1 = some (1, 0 + 1, false) := by kernel_rfl
theorem fd138_0 : fldTy Tryz.prog 138 0 = some (0, 0 + 1, false) := by kernel_rfl
theorem fd138_1 : fldTy Tryz.prog 138 1 = some (1, 0 + 1, false) := by kernel_rfl
theorem fd140_0 : fldTy Tryz.prog 140 0 = some (0, 0 + 1, false) := by kernel_rfl
theorem fd140_1 : fldTy Tryz.prog 140 1 = some (1, 0 + 1, false) := by kernel_rfl
theorem fd140_2 : fldTy Tryz.prog 140 2 = some (2, 0 + 1, false) := by kernel_rfl
theorem fd140_3 : fldTy Tryz.prog 140 3 = some (3, 0 + 1, false) := by kernel_rfl
theorem fd140_4 : fldTy Tryz.prog 140 4 = some (4, 0 + 1, false) := by kernel_rfl
theorem fd140_5 : fldTy Tryz.prog 140 5 = some (5, 0 + 1, false) := by kernel_rfl
theorem fd34_0 : fldTy Tryz.prog 34 0 = some (0, 0 + 1, false) := by kernel_rfl
theorem fd34_1 : fldTy Tryz.prog 34 1 = some (1, 0 + 1, false) := by kernel_rfl
theorem fd36_0 : fldTy Tryz.prog 36 0 = some (0, 0 + 1, false) := by kernel_rfl
theorem fd36_1 : fldTy Tryz.prog 36 1 = some (1, 0 + 1, false) := by kernel_rfl
theorem fd48_0 : fldTy Tryz.prog 48 0 = some (0, 0 + 1, false) := by kernel_rfl
theorem fd48_1 : fldTy Tryz.prog 48 1 = some (1, 0 + 1, false) := by kernel_rfl
theorem fd48_2 : fldTy Tryz.prog 48 2 = some (2, 0 + 1, false) := by kernel_rfl
theorem fd48_3 : fldTy Tryz.prog 48 3 = some (3, 0 + 1, false) := by kernel_rfl
theorem fd48_4 : fldTy Tryz.prog 48 4 = some (4, 0 + 1, false) := by kernel_rfl
theorem fd48_5 : fldTy Tryz.prog 48 5 = some (5, 0 + 1, false) := by kernel_rfl
theorem fd52_0 : fldTy Tryz.prog 52 0 = some (0, 0 + 1, false) := by kernel_rfl
theorem fd52_1 : fldTy Tryz.prog 52 1 = some (1, 0 + 1, false) := by kernel_rfl
theorem fd53_0 : fldTy Tryz.prog 53 0 = some (0, 0 + 1, false) := by kernel_rfl
theorem fd53_1 : fldTy Tryz.prog 53 1 = some (1, 0 + 1, false) := by kernel_rfl
theorem fd56_0 : fldTy Tryz.prog 56 0 = some (0, 0 + 1, false) := by kernel_rfl
theorem fd56_1 : fldTy Tryz.prog 56 1 = some (1, 0 + 1, false) := by kernel_rfl
theorem fd56_10 : fldTy Tryz.prog 56 10 = some (11, 0 + 1, false) := by kernel_rfl
theorem fd56_2 : fldTy Tryz.prog 56 2 = some (2, 0 + 1, false) := by kernel_rfl
theorem fd56_3 : fldTy Tryz.prog 56 3 = some (3, 0 + 1, false) := by kernel_rfl
theorem fd56_4 : fldTy Tryz.prog 56 4 = some (4, 0 + 1, false) := by kernel_rfl
theorem fd56_5 : fldTy Tryz.prog 56 5 = some (5, 0 + 1, false) := by kernel_rfl
theorem fd56_6 : fldTy Tryz.prog 56 6 = some (6, 0 + 1, false) := by kernel_rfl
theorem fd56_7 : fldTy Tryz.prog 56 7 = some (7, 1 + 1, true) := by kernel_rfl
theorem fd56_8 : fldTy Tryz.prog 56 8 = some (9, 0 + 1, false) := by kernel_rfl
theorem fd56_9 : fldTy Tryz.prog 56 9 = some (10, 0 + 1, false) := by kernel_rfl
theorem fd60_0 : fldTy Tryz.prog 60 0 = some (0, 0 + 1, false) := by kernel_rfl
theorem fd60_1 : fldTy Tryz.prog 60 1 = some (1, 0 + 1, false) := by kernel_rfl
theorem fd60_10 : fldTy Tryz.prog 60 10 = some (11, 0 + 1, false) := by kernel_rfl
theorem fd60_2 : fldTy Tryz.prog 60 2 = some (2, 0 + 1, false) := by kernel_rfl
theorem fd60_3 : fldTy Tryz.prog 60 3 = some (3, 0 + 1, false) := by kernel_rfl
theorem fd60_4 : fldTy Tryz.prog 60 4 = some (4, 0 + 1, false) := by kernel_rfl
theorem fd60_5 : fldTy Tryz.prog 60 5 = some (5, 0 + 1, false) := by kernel_rfl
theorem fd60_6 : fldTy Tryz.prog 60 6 = some (6, 0 + 1, false) := by kernel_rfl
theorem fd60_7 : fldTy Tryz.prog 60 7 = some (7, 1 + 1, true) := by kernel_rfl
theorem fd60_8 : fldTy Tryz.prog 60 8 = some (9, 0 + 1, false) := by kernel_rfl
theorem fd60_9 : fldTy Tryz.prog 60 9 = some (10, 0 + 1, false) := by kernel_rfl
theorem fd83_0 : fldTy Tryz.prog 83 0 = some (0, 0 + 1, false) := by kernel_rfl
theorem fd83_1 : fldTy Tryz.prog 83 1 = some (1, 0 + 1, false) := by kernel_rfl
theorem iss9 : isStr Tryz.prog 9 = true := by kernel_rfl
theorem sl112 : slTy Tryz.prog 112 = some (9, 1, 16) := by kernel_rfl
theorem sl24 : slTy Tryz.prog 24 = some (48, 6, 72) := by kernel_rfl
theorem sl31 : slTy Tryz.prog 31 = some (83, 2, 40) := by kernel_rfl
theorem sl32 : slTy Tryz.prog 32 = some (133, 2, 24) := by kernel_rfl
theorem sl49 : slTy Tryz.prog 49 = some (136, 2, 40) := by kernel_rfl
theorem sl50 : slTy Tryz.prog 50 = some (138, 2, 24) := by kernel_rfl
theorem sl54 : slTy Tryz.prog 54 = some (140, 6, 72) := by kernel_rfl
theorem stc48 : strTy Tryz.prog 48 = some ([(0, 1), (1, 1), (2, 1), (3, 1), (4, 1), (5, 1)], [.string ⟨#[]⟩, .int .i64 0, .int .i64 0, .int .i64 0, .string ⟨#[]⟩, .string ⟨#[]⟩]) := by kernel_rfl
theorem stc60 : strTy Tryz.prog 60 = some ([(0, 1), (1, 1), (2, 1), (3, 1), (4, 1), (5, 1), (6, 1), (7, 2), (9, 1), (10, 1), (11, 1)], [.int .i64 0, .bool false, .bool false, .bool false, .bool false, .bool false, .int .i64 0, .string ⟨#[]⟩, .int .i64 0, .slice none 0 0, .slice none 0 0, .slice none 0 0]) := by kernel_rfl
theorem ty133 : tyK Tryz.prog 133 = some (true, 2) := by kernel_rfl
theorem ty136 : tyK Tryz.prog 136 = some (true, 2) := by kernel_rfl
theorem ty138 : tyK Tryz.prog 138 = some (true, 2) := by kernel_rfl
theorem ty140 : tyK Tryz.prog 140 = some (true, 6) := by kernel_rfl
theorem ty24 : tyK Tryz.prog 24 = some (false, 1) := by kernel_rfl
theorem ty3 : tyK Tryz.prog 3 = some (false, 1) := by kernel_rfl
theorem ty31 : tyK Tryz.prog 31 = some (false, 1) := by kernel_rfl
theorem ty32 : tyK Tryz.prog 32 = some (false, 1) := by kernel_rfl
theorem ty34 : tyK Tryz.prog 34 = some (true, 2) := by kernel_rfl
theorem ty36 : tyK Tryz.prog 36 = some (true, 2) := by kernel_rfl
theorem ty4 : tyK Tryz.prog 4 = some (false, 1) := by kernel_rfl
theorem ty48 : tyK Tryz.prog 48 = some (true, 6) := by kernel_rfl
theorem ty49 : tyK Tryz.prog 49 = some (false, 1) := by kernel_rfl
theorem ty50 : tyK Tryz.prog 50 = some (false, 1) := by kernel_rfl
theorem ty53 : tyK Tryz.prog 53 = some (true, 2) := by kernel_rfl
theorem ty54 : tyK Tryz.prog 54 = some (false, 1) := by kernel_rfl
theorem ty60 : tyK Tryz.prog 60 = some (true, 12) := by kernel_rfl
theorem ty83 : tyK Tryz.prog 83 = some (true, 2) := by kernel_rfl
theorem ty9 : tyK Tryz.prog 9 = some (false, 1) := by kernel_rfl
theorem zc133 : zeroC Tryz.prog 133 = some [.int .i64 0, .string ⟨#[]⟩] := by kernel_rfl
theorem zc34 : zeroC Tryz.prog 34 = some [.slice none 0 0, .slice none 0 0] := by kernel_rfl
theorem zc36 : zeroC Tryz.prog 36 = some [.string ⟨#[]⟩, .int .i64 0] := by kernel_rfl
theorem zc48 : zeroC Tryz.prog 48 = some [.string ⟨#[]⟩, .int .i64 0, .int .i64 0, .int .i64 0, .string ⟨#[]⟩, .string ⟨#[]⟩] := by kernel_rfl
theorem zc60 : zeroC Tryz.prog 60 = some [.int .i64 0, .bool false, .bool false, .bool false, .bool false, .bool false, .int .i64 0, .string ⟨#[]⟩, .int .i64 0, .slice none 0 0, .slice none 0 0, .slice none 0 0] := by kernel_rfl
theorem zc83 : zeroC Tryz.prog 83 = some [.string ⟨#[]⟩, .slice none 0 0] := by kernel_rfl
theorem zc9 : zeroC Tryz.prog 9 = some [.string ⟨#[]⟩] := by kernel_rfl
theorem mixed : Tryz.prog.follows .mixedOrders = true := by kernel_rfl
/- laws.szRecord -/

set_option maxRecDepth 4000 in
set_option maxHeartbeats 800000 in
theorem ww_szRecord (p0 : Rec) (p1 : Int) (r0 : Int) (h : w_szRecord p0 p1 = some r0) : Runs Tryz.prog 120 [.agg (recV p0), .sc (.int .i64 p1)] [] (.sc (.int .i64 r0)) [] := by
  unfold w_szRecord at h
  refine runsR [.tmp 4] Tryz.func120 rfl rfl rfl rfl ?_
  rw [Tryz.ntmps120]
  refine tri_seq ?_
  refine tri_region ?_
  refine s_box rfl rfl rfl rfl rfl rfl rfl ?_
  refine s_mv (.inr rfl) (v := .sc (.int .i64 0)) rfl rfl rfl rfl ?_
  refine rt_nil ?_
  refine tri_seq ?_
  refine tri_region ?_
  refine s_mv (.inl rfl) (by conv => lhs; whnf) rfl rfl rfl ?_
  refine s_fieldAddr rfl rfl fd140_0 rfl rfl rfl rfl ?_
  refine s_load rfl rfl rfl rfl ty9 rfl (.inr rfl) (by conv => lhs; whnf) rfl rfl rfl ?_
  refine s_of (st_lenS rfl rfl iss9) rfl rfl rfl rfl ?_
  refine grd_elim h fun g1 h => ?_
  refine s_subI rfl rfl rfl rfl g1 rfl rfl rfl ?_
  refine s_mv (.inr rfl) (by conv => lhs; whnf) rfl rfl rfl ?_
  refine rt_nil ?_
  refine tri_seq ?_
  refine tri_seq ?_
  refine tri_region ?_
  refine s_mv (.inl rfl) (by conv => lhs; whnf) rfl rfl rfl ?_
  refine s_of (st_lss rfl rfl rfl) rfl rfl rfl rfl ?_
  refine rt_nil ?_
  refine tri_cond rfl (fun c2 => ?_) (fun c2 => ?_)
  · replace h := cond_t h c2
    refine tri_seq ?_
    refine tri_region ?_
    refine s_mv (.inr rfl) (v := .sc (.int .i64 (-1))) rfl rfl rfl rfl ?_
    refine rt_nil ?_
    refine tri_ret ?_
    have e0 := (some1 h); subst e0
    exact endY [] [] (rvC (resTmp rfl) rvN) trivial trivial rfl rfl rfl rfl (.free rfl)
  · replace h := cond_f h c2
    refine tri_skip ?_
    refine tri_seq ?_
    refine tri_region ?_
    refine s_mv (.inl rfl) (by conv => lhs; whnf) rfl rfl rfl ?_
    refine s_fieldAddr rfl rfl fd140_4 rfl rfl rfl rfl ?_
    refine s_load rfl rfl rfl rfl ty9 rfl (.inr rfl) (by conv => lhs; whnf) rfl rfl rfl ?_
    refine s_of (st_lenS rfl rfl iss9) rfl rfl rfl rfl ?_
    refine grd_elim h fun g3 h => ?_
    refine s_subI rfl rfl rfl rfl g3 rfl rfl rfl ?_
    refine s_mv (.inr rfl) (by conv => lhs; whnf) rfl rfl rfl ?_
    refine rt_nil ?_
    refine tri_seq ?_
    refine tri_seq ?_
    refine tri_region ?_
    refine s_mv (.inl rfl) (by conv => lhs; whnf) rfl rfl rfl ?_
    refine s_of (st_lss rfl rfl rfl) rfl rfl rfl rfl ?_
    refine rt_nil ?_
    refine tri_cond rfl (fun c4 => ?_) (fun c4 => ?_)
    · replace h := cond_t h c4
      refine tri_seq ?_
      refine tri_region ?_
      refine s_mv (.inr rfl) (v := .sc (.int .i64 (-1))) rfl rfl rfl rfl ?_
      refine rt_nil ?_
      refine tri_ret ?_
      have e0 := (some1 h); subst e0
      exact endY [] [] (rvC (resTmp rfl) rvN) trivial trivial rfl rfl rfl rfl (.free rfl)
    · replace h := cond_f h c4
      refine tri_skip ?_
      refine tri_seq ?_
      refine tri_region ?_
      refine s_mv (.inl rfl) (by conv => lhs; whnf) rfl rfl rfl ?_
      refine s_fieldAddr rfl rfl fd140_5 rfl rfl rfl rfl ?_
      refine s_load rfl rfl rfl rfl ty9 rfl (.inr rfl) (by conv => lhs; whnf) rfl rfl rfl ?_
      refine s_of (st_lenS rfl rfl iss9) rfl rfl rfl rfl ?_
      refine grd_elim h fun g5 h => ?_
      refine s_subI rfl rfl rfl rfl g5 rfl rfl rfl ?_
      refine s_mv (.inr rfl) (by conv => lhs; whnf) rfl rfl rfl ?_
      refine rt_nil ?_
      refine tri_seq ?_
      refine tri_seq ?_
      refine tri_region ?_
      refine s_mv (.inl rfl) (by conv => lhs; whnf) rfl rfl rfl ?_
      refine s_of (st_lss rfl rfl rfl) rfl rfl rfl rfl ?_
      refine rt_nil ?_
      refine tri_cond rfl (fun c6 => ?_) (fun c6 => ?_)
      · replace h := cond_t h c6
        refine tri_seq ?_
        refine tri_region ?_
        refine s_mv (.inr rfl) (v := .sc (.int .i64 (-1))) rfl rfl rfl rfl ?_
        refine rt_nil ?_
        refine tri_ret ?_
        have e0 := (some1 h); subst e0
        exact endY [] [] (rvC (resTmp rfl) rvN) trivial trivial rfl rfl rfl rfl (.free rfl)
      · replace h := cond_f h c6
        refine tri_skip ?_
        refine tri_seq ?_
        refine tri_region ?_
        refine s_mv (.inl rfl) (by conv => lhs; whnf) rfl rfl rfl ?_
        refine s_mv (.inr rfl) (by conv => lhs; whnf) rfl rfl rfl ?_
        refine rt_nil ?_
        refine tri_ret ?_
        have e0 := (some1 h); subst e0
        exact endY [] [] (rvC (resTmp rfl) rvN) trivial trivial rfl rfl rfl rfl (.free rfl)

/- laws.szRecordS -/
def inv_w_szRecordS_0 (p0 : List Rec) (v0_0 : Int) (v0_1 : Nat) : St := mkT 27 [(0, .lst 6 (List.map recV p0)), (1, .sc (.int .i64 v0_0)), (5, .sc (.int .i64 (v0_1 : Int)))] []
set_option maxRecDepth 4000 in
set_option maxHeartbeats 800000 in
theorem ww_szRecordS (p0 : List Rec) (p1 : Int) (r0 : Int) (h : w_szRecordS p0 p1 = some r0) : Runs Tryz.prog 66 [.lst 6 (List.map recV p0), .sc (.int .i64 p1)] [] (.sc (.int .i64 r0)) [] := by
  unfold w_szRecordS at h
  refine runsR [.tmp 4] Tryz.func66 rfl rfl rfl rfl ?_
  rw [Tryz.ntmps66]
  refine tri_seq ?_
  refine tri_region ?_
  refine s_mv (.inr rfl) (v := .sc (.int .i64 0)) rfl rfl rfl rfl ?_
  refine rt_nil ?_
  refine tri_seq ?_
  refine tri_region ?_
  refine s_mv (.inl rfl) (by conv => lhs; whnf) rfl rfl rfl ?_
  refine s_mv (.inl rfl) (by conv => lhs; whnf) rfl rfl rfl ?_
  refine s_lenL rfl sl54 rfl rfl rfl rfl ?_
  refine grd_elim h fun g1 h => ?_
  refine s_subI rfl rfl rfl rfl g1 rfl rfl rfl ?_
  refine s_mv (.inr rfl) (by conv => lhs; whnf) rfl rfl rfl ?_
  refine rt_nil ?_
  refine tri_seq ?_
  refine tri_seq ?_
  refine tri_region ?_
  refine s_mv (.inl rfl) (by conv => lhs; whnf) rfl rfl rfl ?_
  refine s_of (st_lss rfl rfl rfl) rfl rfl rfl rfl ?_
  refine rt_nil ?_
  refine tri_cond rfl (fun c2 => ?_) (fun c2 => ?_)
  · replace h := cond_t h c2
    refine tri_seq ?_
    refine tri_region ?_
    refine s_mv (.inr rfl) (v := .sc (.int .i64 (-1))) rfl rfl rfl rfl ?_
    refine rt_nil ?_
    refine tri_ret ?_
    have e0 := (some1 h); subst e0
    exact endY [] [] (rvC (resTmp rfl) rvN) trivial trivial rfl rfl rfl rfl (.free rfl)
  · replace h := cond_f h c2
    refine tri_skip ?_
    refine tri_seq ?_
    refine tri_seq ?_
    refine tri_region ?_
    refine s_mv (.inr rfl) (v := .sc (.int .i64 0)) rfl rfl rfl rfl ?_
    refine rt_nil ?_
    refine tri_block ?_
    refine tri_lstM 0 rfl (fun hl0 => ?_)
    refine tri_loop (ι := { p : (List Rec) × Int × Nat // p0.drop p.2.2 = p.1 ∧ w_szRecordS_l0 p.1 p.2.1 p.2.2 = some r0 }) (fun p => inv_w_szRecordS_0 p0 p.1.2.1 p.1.2.2) (fun p => p.1.1.length) ⟨(p0, p1 - (p0.length : Int), 0), rfl, h⟩ ?_ ?_
    · skip
      refine entX [] [] trivial trivial rfl rfl ?_
      exact ⟨(.free rfl), (.free rfl), (.free rfl), trivial⟩
    · rintro ⟨⟨lrs0, v0_0, v0_1⟩, hd0, h⟩
      replace hd0 : p0.drop v0_1 = lrs0 := hd0
      replace h : w_szRecordS_l0 lrs0 v0_0 v0_1 = some r0 := h
      show Tri _ _ _ (inv_w_szRecordS_0 p0 v0_0 v0_1)
      refine tri_seq ?_
      refine tri_seq ?_
      refine tri_region ?_
      refine s_mv (.inl rfl) (by conv => lhs; whnf) rfl rfl rfl ?_
      refine s_mv (.inl rfl) (by conv => lhs; whnf) rfl rfl rfl ?_
      refine s_lenL rfl sl54 rfl rfl rfl rfl ?_
      refine s_of (st_lss rfl rfl rfl) rfl rfl rfl rfl ?_
      refine rt_nil ?_
      refine tri_cond rfl (fun c3 => ?_) (fun c3 => ?_)
      · refine drop_elim hd0 c3 fun e0 rs0 he hx0 hn0 => ?_
        subst he
        rw [w_szRecordS_l0] at h
        refine tri_skip ?_
        refine tri_seq ?_
        refine tri_block ?_
        refine tri_seq ?_
        refine tri_region ?_
        refine s_mv (.inl rfl) (by conv => lhs; whnf) rfl rfl rfl ?_
        refine s_mv (.inl rfl) (by conv => lhs; whnf) rfl rfl rfl ?_
        refine s_indexF (i := v0_1) rfl rfl rfl sl54 (get_ltM hx0) rfl rfl rfl ?_
        refine s_loadFR rfl rfl (rowG hx0) ty140 rfl rfl rfl ?_
        refine s_mv (.inl rfl) (by conv => lhs; whnf) rfl rfl rfl ?_
        refine bnd1_elim h fun x4 q5 h => ?_
        refine s_callN (kb := []) (ns := []) (v := .sc (.int .i64 x4)) rfl rfl cl120 (ww_szRecord e0 v0_0 x4 q5) rfl (.cons (relAgg rfl) (.cons (.free rfl) .nil)) trivial memNil .nil memNil rfl trivial memNil rfl rfl rfl rfl rfl rfl ?_
        refine s_mv (.inr rfl) (by conv => lhs; whnf) rfl rfl rfl ?_
        refine rt_nil ?_
        refine tri_seq ?_
        refine tri_region ?_
        refine s_mv (.inl rfl) (by conv => lhs; whnf) rfl rfl rfl ?_
        refine s_of (st_lss rfl rfl rfl) rfl rfl rfl rfl ?_
        refine rt_nil ?_
        refine tri_cond rfl (fun c6 => ?_) (fun c6 => ?_)
        · replace h := cond_t h c6
          refine tri_seq ?_
          refine tri_region ?_
          refine s_mv (.inr rfl) (v := .sc (.int .i64 (-1))) rfl rfl rfl rfl ?_
          refine rt_nil ?_
          refine tri_ret ?_
          have e0 := (some1 h); subst e0
          exact endY [] [] (rvC (resTmp rfl) rvN) trivial trivial rfl rfl rfl rfl (.free rfl)
        · replace h := cond_f h c6
          refine tri_skip ?_
          refine tri_region ?_
          refine s_mv (.inl rfl) (by conv => lhs; whnf) rfl rfl rfl ?_
          refine s_inc (a := v0_1) (b := 1) rfl rfl rfl rfl (by have := get_lt hx0; have := hl0; omega) rfl rfl rfl ?_
          refine s_mv (.inr rfl) (by conv => lhs; whnf) rfl rfl rfl ?_
          refine rt_nil ?_
          refine Exists.intro ⟨(rs0, x4, (v0_1 + 1)), hn0, h⟩ (And.intro (Nat.lt_succ_self _) ?_)
          refine entX [] [] trivial trivial rfl rfl ?_
          exact ⟨(.free rfl), (.free rfl), (.free rfl), trivial⟩
      · have he := drop_f hd0 c3; subst he
        rw [w_szRecordS_l0] at h
        refine tri_exit ?_
        refine tri_seq ?_
        refine tri_region ?_
        refine s_mv (.inl rfl) (by conv => lhs; whnf) rfl rfl rfl ?_
        refine s_mv (.inr rfl) (by conv => lhs; whnf) rfl rfl rfl ?_
        refine rt_nil ?_
        refine tri_ret ?_
        have e0 := (some1 h); subst e0
        exact endY [] [] (rvC (resTmp rfl) rvN) trivial trivial rfl rfl rfl rfl (.free rfl)

/- laws.szZone -/

set_option maxRecDepth 4000 in
set_option maxHeartbeats 800000 in
theorem ww_szZone (p0 : MZone) (p1 : Int) (r0 : Int) (h : w_szZone p0 p1 = some r0) : Runs Tryz.prog 118 [.agg (mZoneV p0), .sc (.int .i64 p1)] [] (.sc (.int .i64 r0)) [] := by
  unfold w_szZone at h
  refine runsR [.tmp 4] Tryz.func118 rfl rfl rfl rfl ?_
  rw [Tryz.ntmps118]
  refine tri_seq ?_
  refine tri_region ?_
  refine s_box rfl rfl rfl rfl rfl rfl rfl ?_
  refine s_mv (.inr rfl) (v := .sc (.int .i64 0)) rfl rfl rfl rfl ?_
  refine rt_nil ?_
  refine tri_seq ?_
  refine tri_region ?_
  refine s_mv (.inl rfl) (by conv => lhs; whnf) rfl rfl rfl ?_
  refine s_fieldAddr rfl rfl fd136_0 rfl rfl rfl rfl ?_
  refine s_load rfl rfl rfl rfl ty9 rfl (.inr rfl) (by conv => lhs; whnf) rfl rfl rfl ?_
  refine s_of (st_lenS rfl rfl iss9) rfl rfl rfl rfl ?_
  refine grd_elim h fun g1 h => ?_
  refine s_subI rfl rfl rfl rfl g1 rfl rfl rfl ?_
  refine s_mv (.inr rfl) (by conv => lhs; whnf) rfl rfl rfl ?_
  refine rt_nil ?_
  refine tri_seq ?_
  refine tri_seq ?_
  refine tri_region ?_
  refine s_mv (.inl rfl) (by conv => lhs; whnf) rfl rfl rfl ?_
  refine s_of (st_lss rfl rfl rfl) rfl rfl rfl rfl ?_
  refine rt_nil ?_
  refine tri_cond rfl (fun c2 => ?_) (fun c2 => ?_)
  · replace h := cond_t h c2
    refine tri_seq ?_
    refine tri_region ?_
    refine s_mv (.inr rfl) (v := .sc (.int .i64 (-1))) rfl rfl rfl rfl ?_
    refine rt_nil ?_
    refine tri_ret ?_
    have e0 := (some1 h); subst e0
    exact endY [] [] (rvC (resTmp rfl) rvN) trivial trivial rfl rfl rfl rfl (.free rfl)
  · replace h := cond_f h c2
    refine tri_skip ?_
    refine tri_seq ?_
    refine tri_region ?_
    refine s_fieldAddr rfl rfl fd136_1 rfl rfl rfl rfl ?_
    refine s_load rfl rfl rfl rfl ty54 rfl (.inr rfl) (by conv => lhs; whnf) rfl rfl rfl ?_
    refine s_mv (.inl rfl) (by conv => lhs; whnf) rfl rfl rfl ?_
    refine bnd1_elim h fun x3 q4 h => ?_
    refine s_callN (kb := []) (ns := []) (v := .sc (.int .i64 x3)) rfl rfl cl66 (ww_szRecordS p0.l (p1 - (p0.apex.size : Int)) x3 q4) rfl (.cons (.free rfl) (.cons (.free rfl) .nil)) trivial memNil .nil memNil rfl trivial memNil rfl rfl rfl rfl rfl rfl ?_
    refine s_mv (.inr rfl) (by conv => lhs; whnf) rfl rfl rfl ?_
    refine rt_nil ?_
    refine tri_seq ?_
    refine tri_seq ?_
    refine tri_region ?_
    refine s_mv (.inl rfl) (by conv => lhs; whnf) rfl rfl rfl ?_
    refine s_of (st_lss rfl rfl rfl) rfl rfl rfl rfl ?_
    refine rt_nil ?_
    refine tri_cond rfl (fun c5 => ?_) (fun c5 => ?_)
    · replace h := cond_t h c5
      refine tri_seq ?_
      refine tri_region ?_
      refine s_mv (.inr rfl) (v := .sc (.int .i64 (-1))) rfl rfl rfl rfl ?_
      refine rt_nil ?_
      refine tri_ret ?_
      have e0 := (some1 h); subst e0
      exact endY [] [] (rvC (resTmp rfl) rvN) trivial trivial rfl rfl rfl rfl (.free rfl)
    · replace h := cond_f h c5
      refine tri_skip ?_
      refine tri_seq ?_
      refine tri_region ?_
      refine s_mv (.inl rfl) (by conv => lhs; whnf) rfl rfl rfl ?_
      refine s_mv (.inr rfl) (by conv => lhs; whnf) rfl rfl rfl ?_
      refine rt_nil ?_
      refine tri_ret ?_
      have e0 := (some1 h); subst e0
      exact endY [] [] (rvC (resTmp rfl) rvN) trivial trivial rfl rfl rfl rfl (.free rfl)

/- laws.szZoneS -/
def inv_w_szZoneS_0 (p0 : List MZone) (v0_0 : Int) (v0_1 : Nat) : St := mkT 27 [(0, .lst 2 (List.map mZoneV p0)), (1, .sc (.int .i64 v0_0)), (5, .sc (.int .i64 (v0_1 : Int)))] []
set_option maxRecDepth 4000 in
set_option maxHeartbeats 800000 in
theorem ww_szZoneS (p0 : List MZone) (p1 : Int) (r0 : Int) (h : w_szZoneS p0 p1 = some r0) : Runs Tryz.prog 63 [.lst 2 (List.map mZoneV p0), .sc (.int .i64 p1)] [] (.sc (.int .i64 r0)) [] := by
  unfold w_szZoneS at h
  refine runsR [.tmp 4] Tryz.func63 rfl rfl rfl rfl ?_
  rw [Tryz.ntmps63]
  refine tri_seq ?_
  refine tri_region ?_
  refine s_mv (.inr rfl) (v := .sc (.int .i64 0)) rfl rfl rfl rfl ?_
  refine rt_nil ?_
  refine tri_seq ?_
  refine tri_region ?_
  refine s_mv (.inl rfl) (by conv => lhs; whnf) rfl rfl rfl ?_
  refine s_mv (.inl rfl) (by conv => lhs; whnf) rfl rfl rfl ?_
  refine s_lenL rfl sl49 rfl rfl rfl rfl ?_
  refine grd_elim h fun g1 h => ?_
  refine s_subI rfl rfl rfl rfl g1 rfl rfl rfl ?_
  refine s_mv (.inr rfl) (by conv => lhs; whnf) rfl rfl rfl ?_
  refine rt_nil ?_
  refine tri_seq ?_
  refine tri_seq ?_
  refine tri_region ?_
  refine s_mv (.inl rfl) (by conv => lhs; whnf) rfl rfl rfl ?_
  refine s_of (st_lss rfl rfl rfl) rfl rfl rfl rfl ?_
  refine rt_nil ?_
  refine tri_cond rfl (fun c2 => ?_) (fun c2 => ?_)
  · replace h := cond_t h c2
    refine tri_seq ?_
    refine tri_region ?_
    refine s_mv (.inr rfl) (v := .sc (.int .i64 (-1))) rfl rfl rfl rfl ?_
    refine rt_nil ?_
    refine tri_ret ?_
    have e0 := (some1 h); subst e0
    exact endY [] [] (rvC (resTmp rfl) rvN) trivial trivial rfl rfl rfl rfl (.free rfl)
  · replace h := cond_f h c2
    refine tri_skip ?_
    refine tri_seq ?_
    refine tri_seq ?_
    refine tri_region ?_
    refine s_mv (.inr rfl) (v := .sc (.int .i64 0)) rfl rfl rfl rfl ?_
    refine rt_nil ?_
    refine tri_block ?_
    refine tri_lstM 0 rfl (fun hl0 => ?_)
    refine tri_loop (ι := { p : (List MZone) × Int × Nat // p0.drop p.2.2 = p.1 ∧ w_szZoneS_l0 p.1 p.2.1 p.2.2 = some r0 }) (fun p => inv_w_szZoneS_0 p0 p.1.2.1 p.1.2.2) (fun p => p.1.1.length) ⟨(p0, p1 - (p0.length : Int), 0), rfl, h⟩ ?_ ?_
    · skip
      refine entX [] [] trivial trivial rfl rfl ?_
      exact ⟨(.free rfl), (.free rfl), (.free rfl), trivial⟩
    · rintro ⟨⟨lrs0, v0_0, v0_1⟩, hd0, h⟩
      replace hd0 : p0.drop v0_1 = lrs0 := hd0
      replace h : w_szZoneS_l0 lrs0 v0_0 v0_1 = some r0 := h
      show Tri _ _ _ (inv_w_szZoneS_0 p0 v0_0 v0_1)
      refine tri_seq ?_
      refine tri_seq ?_
      refine tri_region ?_
      refine s_mv (.inl rfl) (by conv => lhs; whnf) rfl rfl rfl ?_
      refine s_mv (.inl rfl) (by conv => lhs; whnf) rfl rfl rfl ?_
      refine s_lenL rfl sl49 rfl rfl rfl rfl ?_
      refine s_of (st_lss rfl rfl rfl) rfl rfl rfl rfl ?_
      refine rt_nil ?_
      refine tri_cond rfl (fun c3 => ?_) (fun c3 => ?_)
      · refine drop_elim hd0 c3 fun e0 rs0 he hx0 hn0 => ?_
        subst he
        rw [w_szZoneS_l0] at h
        refine tri_skip ?_
        refine tri_seq ?_
        refine tri_block ?_
        refine tri_seq ?_
        refine tri_region ?_
        refine s_mv (.inl rfl) (by conv => lhs; whnf) rfl rfl rfl ?_
        refine s_mv (.inl rfl) (by conv => lhs; whnf) rfl rfl rfl ?_
        refine s_indexF (i := v0_1) rfl rfl rfl sl49 (get_ltM hx0) rfl rfl rfl ?_
        refine s_loadFR rfl rfl (rowG hx0) ty136 rfl rfl rfl ?_
        refine s_mv (.inl rfl) (by conv => lhs; whnf) rfl rfl rfl ?_
        refine bnd1_elim h fun x4 q5 h => ?_
        refine s_callN (kb := []) (ns := []) (v := .sc (.int .i64 x4)) rfl rfl cl118 (ww_szZone e0 v0_0 x4 q5) rfl (.cons (relAgg rfl) (.cons (.free rfl) .nil)) trivial memNil .nil memNil rfl trivial memNil rfl rfl rfl rfl rfl rfl ?_
        refine s_mv (.inr rfl) (by conv => lhs; whnf) rfl rfl rfl ?_
        refine rt_nil ?_
        refine tri_seq ?_
        refine tri_region ?_
        refine s_mv (.inl rfl) (by conv => lhs; whnf) rfl rfl rfl ?_
        refine s_of (st_lss rfl rfl rfl) rfl rfl rfl rfl ?_
        refine rt_nil ?_
        refine tri_cond rfl (fun c6 => ?_) (fun c6 => ?_)
        · replace h := cond_t h c6
          refine tri_seq ?_
          refine tri_region ?_
          refine s_mv (.inr rfl) (v := .sc (.int .i64 (-1))) rfl rfl rfl rfl ?_
          refine rt_nil ?_
          refine tri_ret ?_
          have e0 := (some1 h); subst e0
          exact endY [] [] (rvC (resTmp rfl) rvN) trivial trivial rfl rfl rfl rfl (.free rfl)
        · replace h := cond_f h c6
          refine tri_skip ?_
          refine tri_region ?_
          refine s_mv (.inl rfl) (by conv => lhs; whnf) rfl rfl rfl ?_
          refine s_inc (a := v0_1) (b := 1) rfl rfl rfl rfl (by have := get_lt hx0; have := hl0; omega) rfl rfl rfl ?_
          refine s_mv (.inr rfl) (by conv => lhs; whnf) rfl rfl rfl ?_
          refine rt_nil ?_
          refine Exists.intro ⟨(rs0, x4, (v0_1 + 1)), hn0, h⟩ (And.intro (Nat.lt_succ_self _) ?_)
          refine entX [] [] trivial trivial rfl rfl ?_
          exact ⟨(.free rfl), (.free rfl), (.free rfl), trivial⟩
      · have he := drop_f hd0 c3; subst he
        rw [w_szZoneS_l0] at h
        refine tri_exit ?_
        refine tri_seq ?_
        refine tri_region ?_
        refine s_mv (.inl rfl) (by conv => lhs; whnf) rfl rfl rfl ?_
        refine s_mv (.inr rfl) (by conv => lhs; whnf) rfl rfl rfl ?_
        refine rt_nil ?_
        refine tri_ret ?_
        have e0 := (some1 h); subst e0
        exact endY [] [] (rvC (resTmp rfl) rvN) trivial trivial rfl rfl rfl rfl (.free rfl)

/- laws.szPost -/

set_option maxRecDepth 4000 in
set_option maxHeartbeats 800000 in
theorem ww_szPost (p0 : MPost) (p1 : Int) (r0 : Int) (h : w_szPost p0 p1 = some r0) : Runs Tryz.prog 119 [.agg (mPostV p0), .sc (.int .i64 p1)] [] (.sc (.int .i64 r0)) [] := by
  unfold w_szPost at h
  refine runsR [.tmp 4] Tryz.func119 rfl rfl rfl rfl ?_
  rw [Tryz.ntmps119]
  refine tri_seq ?_
  refine tri_region ?_
  refine s_box rfl rfl rfl rfl rfl rfl rfl ?_
  refine s_mv (.inr rfl) (v := .sc (.int .i64 0)) rfl rfl rfl rfl ?_
  refine rt_nil ?_
  refine tri_seq ?_
  refine tri_region ?_
  refine s_mv (.inl rfl) (by conv => lhs; whnf) rfl rfl rfl ?_
  refine s_fieldAddr rfl rfl fd138_1 rfl rfl rfl rfl ?_
  refine s_load rfl rfl rfl rfl ty9 rfl (.inr rfl) (by conv => lhs; whnf) rfl rfl rfl ?_
  refine s_of (st_lenS rfl rfl iss9) rfl rfl rfl rfl ?_
  refine grd_elim h fun g1 h => ?_
  refine s_subI rfl rfl rfl rfl g1 rfl rfl rfl ?_
  refine s_mv (.inr rfl) (by conv => lhs; whnf) rfl rfl rfl ?_
  refine rt_nil ?_
  refine tri_seq ?_
  refine tri_seq ?_
  refine tri_region ?_
  refine s_mv (.inl rfl) (by conv => lhs; whnf) rfl rfl rfl ?_
  refine s_of (st_lss rfl rfl rfl) rfl rfl rfl rfl ?_
  refine rt_nil ?_
  refine tri_cond rfl (fun c2 => ?_) (fun c2 => ?_)
  · replace h := cond_t h c2
    refine tri_seq ?_
    refine tri_region ?_
    refine s_mv (.inr rfl) (v := .sc (.int .i64 (-1))) rfl rfl rfl rfl ?_
    refine rt_nil ?_
    refine tri_ret ?_
    have e0 := (some1 h); subst e0
    exact endY [] [] (rvC (resTmp rfl) rvN) trivial trivial rfl rfl rfl rfl (.free rfl)
  · replace h := cond_f h c2
    refine tri_skip ?_
    refine tri_seq ?_
    refine tri_region ?_
    refine s_mv (.inl rfl) (by conv => lhs; whnf) rfl rfl rfl ?_
    refine s_mv (.inr rfl) (by conv => lhs; whnf) rfl rfl rfl ?_
    refine rt_nil ?_
    refine tri_ret ?_
    have e0 := (some1 h); subst e0
    exact endY [] [] (rvC (resTmp rfl) rvN) trivial trivial rfl rfl rfl rfl (.free rfl)

/- laws.szPostS -/
def inv_w_szPostS_0 (p0 : List MPost) (v0_0 : Int) (v0_1 : Nat) : St := mkT 27 [(0, .lst 2 (List.map mPostV p0)), (1, .sc (.int .i64 v0_0)), (5, .sc (.int .i64 (v0_1 : Int)))] []
set_option maxRecDepth 4000 in
set_option maxHeartbeats 800000 in
theorem ww_szPostS (p0 : List MPost) (p1 : Int) (r0 : Int) (h : w_szPostS p0 p1 = some r0) : Runs Tryz.prog 64 [.lst 2 (List.map mPostV p0), .sc (.int .i64 p1)] [] (.sc (.int .i64 r0)) [] := by
  unfold w_szPostS at h
  refine runsR [.tmp 4] Tryz.func64 rfl rfl rfl rfl ?_
  rw [Tryz.ntmps64]
  refine tri_seq ?_
  refine tri_region ?_
  refine s_mv (.inr rfl) (v := .sc (.int .i64 0)) rfl rfl rfl rfl ?_
  refine rt_nil ?_
  refine tri_seq ?_
  refine tri_region ?_
  refine s_mv (.inl rfl) (by conv => lhs; whnf) rfl rfl rfl ?_
  refine s_mv (.inl rfl) (by conv => lhs; whnf) rfl rfl rfl ?_
  refine s_lenL rfl sl50 rfl rfl rfl rfl ?_
  refine grd_elim h fun g1 h => ?_
  refine s_subI rfl rfl rfl rfl g1 rfl rfl rfl ?_
  refine s_mv (.inr rfl) (by conv => lhs; whnf) rfl rfl rfl ?_
  refine rt_nil ?_
  refine tri_seq ?_
  refine tri_seq ?_
  refine tri_region ?_
  refine s_mv (.inl rfl) (by conv => lhs; whnf) rfl rfl rfl ?_
  refine s_of (st_lss rfl rfl rfl) rfl rfl rfl rfl ?_
  refine rt_nil ?_
  refine tri_cond rfl (fun c2 => ?_) (fun c2 => ?_)
  · replace h := cond_t h c2
    refine tri_seq ?_
    refine tri_region ?_
    refine s_mv (.inr rfl) (v := .sc (.int .i64 (-1))) rfl rfl rfl rfl ?_
    refine rt_nil ?_
    refine tri_ret ?_
    have e0 := (some1 h); subst e0
    exact endY [] [] (rvC (resTmp rfl) rvN) trivial trivial rfl rfl rfl rfl (.free rfl)
  · replace h := cond_f h c2
    refine tri_skip ?_
    refine tri_seq ?_
    refine tri_seq ?_
    refine tri_region ?_
    refine s_mv (.inr rfl) (v := .sc (.int .i64 0)) rfl rfl rfl rfl ?_
    refine rt_nil ?_
    refine tri_block ?_
    refine tri_lstM 0 rfl (fun hl0 => ?_)
    refine tri_loop (ι := { p : (List MPost) × Int × Nat // p0.drop p.2.2 = p.1 ∧ w_szPostS_l0 p.1 p.2.1 p.2.2 = some r0 }) (fun p => inv_w_szPostS_0 p0 p.1.2.1 p.1.2.2) (fun p => p.1.1.length) ⟨(p0, p1 - (p0.length : Int), 0), rfl, h⟩ ?_ ?_
    · skip
      refine entX [] [] trivial trivial rfl rfl ?_
      exact ⟨(.free rfl), (.free rfl), (.free rfl), trivial⟩
    · rintro ⟨⟨lrs0, v0_0, v0_1⟩, hd0, h⟩
      replace hd0 : p0.drop v0_1 = lrs0 := hd0
      replace h : w_szPostS_l0 lrs0 v0_0 v0_1 = some r0 := h
      show Tri _ _ _ (inv_w_szPostS_0 p0 v0_0 v0_1)
      refine tri_seq ?_
      refine tri_seq ?_
      refine tri_region ?_
      refine s_mv (.inl rfl) (by conv => lhs; whnf) rfl rfl rfl ?_
      refine s_mv (.inl rfl) (by conv => lhs; whnf) rfl rfl rfl ?_
      refine s_lenL rfl sl50 rfl rfl rfl rfl ?_
      refine s_of (st_lss rfl rfl rfl) rfl rfl rfl rfl ?_
      refine rt_nil ?_
      refine tri_cond rfl (fun c3 => ?_) (fun c3 => ?_)
      · refine drop_elim hd0 c3 fun e0 rs0 he hx0 hn0 => ?_
        subst he
        rw [w_szPostS_l0] at h
        refine tri_skip ?_
        refine tri_seq ?_
        refine tri_block ?_
        refine tri_seq ?_
        refine tri_region ?_
        refine s_mv (.inl rfl) (by conv => lhs; whnf) rfl rfl rfl ?_
        refine s_mv (.inl rfl) (by conv => lhs; whnf) rfl rfl rfl ?_
        refine s_indexF (i := v0_1) rfl rfl rfl sl50 (get_ltM hx0) rfl rfl rfl ?_
        refine s_loadFR rfl rfl (rowG hx0) ty138 rfl rfl rfl ?_
        refine s_mv (.inl rfl) (by conv => lhs; whnf) rfl rfl rfl ?_
        refine bnd1_elim h fun x4 q5 h => ?_
        refine s_callN (kb := []) (ns := []) (v := .sc (.int .i64 x4)) rfl rfl cl119 (ww_szPost e0 v0_0 x4 q5) rfl (.cons (relAgg rfl) (.cons (.free rfl) .nil)) trivial memNil .nil memNil rfl trivial memNil rfl rfl rfl rfl rfl rfl ?_
        refine s_mv (.inr rfl) (by conv => lhs; whnf) rfl rfl rfl ?_
        refine rt_nil ?_
        refine tri_seq ?_
        refine tri_region ?_
        refine s_mv (.inl rfl) (by conv => lhs; whnf) rfl rfl rfl ?_
        refine s_of (st_lss rfl rfl rfl) rfl rfl rfl rfl ?_
        refine rt_nil ?_
        refine tri_cond rfl (fun c6 => ?_) (fun c6 => ?_)
        · replace h := cond_t h c6
          refine tri_seq ?_
          refine tri_region ?_
          refine s_mv (.inr rfl) (v := .sc (.int .i64 (-1))) rfl rfl rfl rfl ?_
          refine rt_nil ?_
          refine tri_ret ?_
          have e0 := (some1 h); subst e0
          exact endY [] [] (rvC (resTmp rfl) rvN) trivial trivial rfl rfl rfl rfl (.free rfl)
        · replace h := cond_f h c6
          refine tri_skip ?_
          refine tri_region ?_
          refine s_mv (.inl rfl) (by conv => lhs; whnf) rfl rfl rfl ?_
          refine s_inc (a := v0_1) (b := 1) rfl rfl rfl rfl (by have := get_lt hx0; have := hl0; omega) rfl rfl rfl ?_
          refine s_mv (.inr rfl) (by conv => lhs; whnf) rfl rfl rfl ?_
          refine rt_nil ?_
          refine Exists.intro ⟨(rs0, x4, (v0_1 + 1)), hn0, h⟩ (And.intro (Nat.lt_succ_self _) ?_)
          refine entX [] [] trivial trivial rfl rfl ?_
          exact ⟨(.free rfl), (.free rfl), (.free rfl), trivial⟩
      · have he := drop_f hd0 c3; subst he
        rw [w_szPostS_l0] at h
        refine tri_exit ?_
        refine tri_seq ?_
        refine tri_region ?_
        refine s_mv (.inl rfl) (by conv => lhs; whnf) rfl rfl rfl ?_
        refine s_mv (.inr rfl) (by conv => lhs; whnf) rfl rfl rfl ?_
        refine rt_nil ?_
        refine tri_ret ?_
        have e0 := (some1 h); subst e0
        exact endY [] [] (rvC (resTmp rfl) rvN) trivial trivial rfl rfl rfl rfl (.free rfl)

/- laws.szForest -/

set_option maxRecDepth 4000 in
set_option maxHeartbeats 800000 in
theorem ww_szForest (p0 : MForest) (p1 : Int) (r0 : Int) (h : w_szForest p0 p1 = some r0) : Runs Tryz.prog 25 [.agg (mForestV p0), .sc (.int .i64 p1)] [] (.sc (.int .i64 r0)) [] := by
  unfold w_szForest at h
  refine runsR [.tmp 4] Tryz.func25 rfl rfl rfl rfl ?_
  rw [Tryz.ntmps25]
  refine tri_seq ?_
  refine tri_region ?_
  refine s_box rfl rfl rfl rfl rfl rfl rfl ?_
  refine s_mv (.inr rfl) (v := .sc (.int .i64 0)) rfl rfl rfl rfl ?_
  refine rt_nil ?_
  refine tri_seq ?_
  refine tri_region ?_
  refine s_fieldAddr rfl rfl fd52_0 rfl rfl rfl rfl ?_
  refine s_load rfl rfl rfl rfl ty49 rfl (.inr rfl) (by conv => lhs; whnf) rfl rfl rfl ?_
  refine s_mv (.inl rfl) (by conv => lhs; whnf) rfl rfl rfl ?_
  refine bnd1_elim h fun x1 q2 h => ?_
  refine s_callN (kb := []) (ns := []) (v := .sc (.int .i64 x1)) rfl rfl cl63 (ww_szZoneS p0.zones p1 x1 q2) rfl (.cons (.free rfl) (.cons (.free rfl) .nil)) trivial memNil .nil memNil rfl trivial memNil rfl rfl rfl rfl rfl rfl ?_
  refine s_mv (.inr rfl) (by conv => lhs; whnf) rfl rfl rfl ?_
  refine rt_nil ?_
  refine tri_seq ?_
  refine tri_seq ?_
  refine tri_region ?_
  refine s_mv (.inl rfl) (by conv => lhs; whnf) rfl rfl rfl ?_
  refine s_of (st_lss rfl rfl rfl) rfl rfl rfl rfl ?_
  refine rt_nil ?_
  refine tri_cond rfl (fun c3 => ?_) (fun c3 => ?_)
  · replace h := cond_t h c3
    refine tri_seq ?_
    refine tri_region ?_
    refine s_mv (.inr rfl) (v := .sc (.int .i64 (-1))) rfl rfl rfl rfl ?_
    refine rt_nil ?_
    refine tri_ret ?_
    have e0 := (some1 h); subst e0
    exact endY [] [] (rvC (resTmp rfl) rvN) trivial trivial rfl rfl rfl rfl (.free rfl)
  · replace h := cond_f h c3
    refine tri_skip ?_
    refine tri_seq ?_
    refine tri_region ?_
    refine s_fieldAddr rfl rfl fd52_1 rfl rfl rfl rfl ?_
    refine s_load rfl rfl rfl rfl ty50 rfl (.inr rfl) (by conv => lhs; whnf) rfl rfl rfl ?_
    refine s_mv (.inl rfl) (by conv => lhs; whnf) rfl rfl rfl ?_
    refine bnd1_elim h fun x4 q5 h => ?_
    refine s_callN (kb := []) (ns := []) (v := .sc (.int .i64 x4)) rfl rfl cl64 (ww_szPostS p0.posts x1 x4 q5) rfl (.cons (.free rfl) (.cons (.free rfl) .nil)) trivial memNil .nil memNil rfl trivial memNil rfl rfl rfl rfl rfl rfl ?_
    refine s_mv (.inr rfl) (by conv => lhs; whnf) rfl rfl rfl ?_
    refine rt_nil ?_
    refine tri_seq ?_
    refine tri_seq ?_
    refine tri_region ?_
    refine s_mv (.inl rfl) (by conv => lhs; whnf) rfl rfl rfl ?_
    refine s_of (st_lss rfl rfl rfl) rfl rfl rfl rfl ?_
    refine rt_nil ?_
    refine tri_cond rfl (fun c6 => ?_) (fun c6 => ?_)
    · replace h := cond_t h c6
      refine tri_seq ?_
      refine tri_region ?_
      refine s_mv (.inr rfl) (v := .sc (.int .i64 (-1))) rfl rfl rfl rfl ?_
      refine rt_nil ?_
      refine tri_ret ?_
      have e0 := (some1 h); subst e0
      exact endY [] [] (rvC (resTmp rfl) rvN) trivial trivial rfl rfl rfl rfl (.free rfl)
    · replace h := cond_f h c6
      refine tri_skip ?_
      refine tri_seq ?_
      refine tri_region ?_
      refine s_mv (.inl rfl) (by conv => lhs; whnf) rfl rfl rfl ?_
      refine s_mv (.inr rfl) (by conv => lhs; whnf) rfl rfl rfl ?_
      refine rt_nil ?_
      refine tri_ret ?_
      have e0 := (some1 h); subst e0
      exact endY [] [] (rvC (resTmp rfl) rvN) trivial trivial rfl rfl rfl rfl (.free rfl)

/- laws.szQuest -/

set_option maxRecDepth 4000 in
set_option maxHeartbeats 800000 in
theorem ww_szQuest (p0 : Quest) (p1 : Int) (r0 : Int) (h : w_szQuest p0 p1 = some r0) : Runs Tryz.prog 65 [.agg (questV p0), .sc (.int .i64 p1)] [] (.sc (.int .i64 r0)) [] := by
  unfold w_szQuest at h
  refine runsR [.tmp 4] Tryz.func65 rfl rfl rfl rfl ?_
  rw [Tryz.ntmps65]
  refine tri_seq ?_
  refine tri_region ?_
  refine s_box rfl rfl rfl rfl rfl rfl rfl ?_
  refine s_mv (.inr rfl) (v := .sc (.int .i64 0)) rfl rfl rfl rfl ?_
  refine rt_nil ?_
  refine tri_seq ?_
  refine tri_region ?_
  refine s_mv (.inl rfl) (by conv => lhs; whnf) rfl rfl rfl ?_
  refine s_fieldAddr rfl rfl fd53_0 rfl rfl rfl rfl ?_
  refine s_load rfl rfl rfl rfl ty9 rfl (.inr rfl) (by conv => lhs; whnf) rfl rfl rfl ?_
  refine s_of (st_lenS rfl rfl iss9) rfl rfl rfl rfl ?_
  refine grd_elim h fun g1 h => ?_
  refine s_subI rfl rfl rfl rfl g1 rfl rfl rfl ?_
  refine s_mv (.inr rfl) (by conv => lhs; whnf) rfl rfl rfl ?_
  refine rt_nil ?_
  refine tri_seq ?_
  refine tri_seq ?_
  refine tri_region ?_
  refine s_mv (.inl rfl) (by conv => lhs; whnf) rfl rfl rfl ?_
  refine s_of (st_lss rfl rfl rfl) rfl rfl rfl rfl ?_
  refine rt_nil ?_
  refine tri_cond rfl (fun c2 => ?_) (fun c2 => ?_)
  · replace h := cond_t h c2
    refine tri_seq ?_
    refine tri_region ?_
    refine s_mv (.inr rfl) (v := .sc (.int .i64 (-1))) rfl rfl rfl rfl ?_
    refine rt_nil ?_
    refine tri_ret ?_
    have e0 := (some1 h); subst e0
    exact endY [] [] (rvC (resTmp rfl) rvN) trivial trivial rfl rfl rfl rfl (.free rfl)
  · replace h := cond_f h c2
    refine tri_skip ?_
    refine tri_seq ?_
    refine tri_region ?_
    refine s_mv (.inl rfl) (by conv => lhs; whnf) rfl rfl rfl ?_
    refine s_mv (.inr rfl) (by conv => lhs; whnf) rfl rfl rfl ?_
    refine rt_nil ?_
    refine tri_ret ?_
    have e0 := (some1 h); subst e0
    exact endY [] [] (rvC (resTmp rfl) rvN) trivial trivial rfl rfl rfl rfl (.free rfl)

/- laws.szMsg -/

set_option maxRecDepth 4000 in
set_option maxHeartbeats 800000 in
theorem ww_szMsg (p0 : MMsg) (p1 : Int) (r0 : Int) (h : w_szMsg p0 p1 = some r0) : Runs Tryz.prog 26 [.agg (mMsgV p0), .sc (.int .i64 p1)] [] (.sc (.int .i64 r0)) [] := by
  unfold w_szMsg at h
  refine runsR [.tmp 4] Tryz.func26 rfl rfl rfl rfl ?_
  rw [Tryz.ntmps26]
  refine tri_seq ?_
  refine tri_region ?_
  refine s_box rfl rfl rfl rfl rfl rfl rfl ?_
  refine s_mv (.inr rfl) (v := .sc (.int .i64 0)) rfl rfl rfl rfl ?_
  refine rt_nil ?_
  refine tri_seq ?_
  refine tri_region ?_
  refine s_fieldAddr rfl rfl fd56_7 rfl rfl rfl rfl ?_
  refine s_load (v := .agg (questV p0.q)) rfl rfl rfl rfl ty53 rfl (.inl rfl) rfl rfl rfl rfl ?_
  refine s_mv (.inl rfl) (by conv => lhs; whnf) rfl rfl rfl ?_
  refine bnd1_elim h fun x1 q2 h => ?_
  refine s_callN (kb := []) (ns := []) (v := .sc (.int .i64 x1)) rfl rfl cl65 (ww_szQuest p0.q p1 x1 q2) rfl (.cons (relAgg rfl) (.cons (.free rfl) .nil)) trivial memNil .nil memNil rfl trivial memNil rfl rfl rfl rfl rfl rfl ?_
  refine s_mv (.inr rfl) (by conv => lhs; whnf) rfl rfl rfl ?_
  refine rt_nil ?_
  refine tri_seq ?_
  refine tri_seq ?_
  refine tri_region ?_
  refine s_mv (.inl rfl) (by conv => lhs; whnf) rfl rfl rfl ?_
  refine s_of (st_lss rfl rfl rfl) rfl rfl rfl rfl ?_
  refine rt_nil ?_
  refine tri_cond rfl (fun c3 => ?_) (fun c3 => ?_)
  · replace h := cond_t h c3
    refine tri_seq ?_
    refine tri_region ?_
    refine s_mv (.inr rfl) (v := .sc (.int .i64 (-1))) rfl rfl rfl rfl ?_
    refine rt_nil ?_
    refine tri_ret ?_
    have e0 := (some1 h); subst e0
    exact endY [] [] (rvC (resTmp rfl) rvN) trivial trivial rfl rfl rfl rfl (.free rfl)
  · replace h := cond_f h c3
    refine tri_skip ?_
    refine tri_seq ?_
    refine tri_region ?_
    refine s_fieldAddr rfl rfl fd56_8 rfl rfl rfl rfl ?_
    refine s_load rfl rfl rfl rfl ty54 rfl (.inr rfl) (by conv => lhs; whnf) rfl rfl rfl ?_
    refine s_mv (.inl rfl) (by conv => lhs; whnf) rfl rfl rfl ?_
    refine bnd1_elim h fun x4 q5 h => ?_
    refine s_callN (kb := []) (ns := []) (v := .sc (.int .i64 x4)) rfl rfl cl66 (ww_szRecordS p0.an x1 x4 q5) rfl (.cons (.free rfl) (.cons (.free rfl) .nil)) trivial memNil .nil memNil rfl trivial memNil rfl rfl rfl rfl rfl rfl ?_
    refine s_mv (.inr rfl) (by conv => lhs; whnf) rfl rfl rfl ?_
    refine rt_nil ?_
    refine tri_seq ?_
    refine tri_seq ?_
    refine tri_region ?_
    refine s_mv (.inl rfl) (by conv => lhs; whnf) rfl rfl rfl ?_
    refine s_of (st_lss rfl rfl rfl) rfl rfl rfl rfl ?_
    refine rt_nil ?_
    refine tri_cond rfl (fun c6 => ?_) (fun c6 => ?_)
    · replace h := cond_t h c6
      refine tri_seq ?_
      refine tri_region ?_
      refine s_mv (.inr rfl) (v := .sc (.int .i64 (-1))) rfl rfl rfl rfl ?_
      refine rt_nil ?_
      refine tri_ret ?_
      have e0 := (some1 h); subst e0
      exact endY [] [] (rvC (resTmp rfl) rvN) trivial trivial rfl rfl rfl rfl (.free rfl)
    · replace h := cond_f h c6
      refine tri_skip ?_
      refine tri_seq ?_
      refine tri_region ?_
      refine s_fieldAddr rfl rfl fd56_9 rfl rfl rfl rfl ?_
      refine s_load rfl rfl rfl rfl ty54 rfl (.inr rfl) (by conv => lhs; whnf) rfl rfl rfl ?_
      refine s_mv (.inl rfl) (by conv => lhs; whnf) rfl rfl rfl ?_
      refine bnd1_elim h fun x7 q8 h => ?_
      refine s_callN (kb := []) (ns := []) (v := .sc (.int .i64 x7)) rfl rfl cl66 (ww_szRecordS p0.au x4 x7 q8) rfl (.cons (.free rfl) (.cons (.free rfl) .nil)) trivial memNil .nil memNil rfl trivial memNil rfl rfl rfl rfl rfl rfl ?_
      refine s_mv (.inr rfl) (by conv => lhs; whnf) rfl rfl rfl ?_
      refine rt_nil ?_
      refine tri_seq ?_
      refine tri_seq ?_
      refine tri_region ?_
      refine s_mv (.inl rfl) (by conv => lhs; whnf) rfl rfl rfl ?_
      refine s_of (st_lss rfl rfl rfl) rfl rfl rfl rfl ?_
      refine rt_nil ?_
      refine tri_cond rfl (fun c9 => ?_) (fun c9 => ?_)
      · replace h := cond_t h c9
        refine tri_seq ?_
        refine tri_region ?_
        refine s_mv (.inr rfl) (v := .sc (.int .i64 (-1))) rfl rfl rfl rfl ?_
        refine rt_nil ?_
        refine tri_ret ?_
        have e0 := (some1 h); subst e0
        exact endY [] [] (rvC (resTmp rfl) rvN) trivial trivial rfl rfl rfl rfl (.free rfl)
      · replace h := cond_f h c9
        refine tri_skip ?_
        refine tri_seq ?_
        refine tri_region ?_
        refine s_fieldAddr rfl rfl fd56_10 rfl rfl rfl rfl ?_
        refine s_load rfl rfl rfl rfl ty54 rfl (.inr rfl) (by conv => lhs; whnf) rfl rfl rfl ?_
        refine s_mv (.inl rfl) (by conv => lhs; whnf) rfl rfl rfl ?_
        refine bnd1_elim h fun x10 q11 h => ?_
        refine s_callN (kb := []) (ns := []) (v := .sc (.int .i64 x10)) rfl rfl cl66 (ww_szRecordS p0.ad x7 x10 q11) rfl (.cons (.free rfl) (.cons (.free rfl) .nil)) trivial memNil .nil memNil rfl trivial memNil rfl rfl rfl rfl rfl rfl ?_
        refine s_mv (.inr rfl) (by conv => lhs; whnf) rfl rfl rfl ?_
        refine rt_nil ?_
        refine tri_seq ?_
        refine tri_seq ?_
        refine tri_region ?_
        refine s_mv (.inl rfl) (by conv => lhs; whnf) rfl rfl rfl ?_
        refine s_of (st_lss rfl rfl rfl) rfl rfl rfl rfl ?_
        refine rt_nil ?_
        refine tri_cond rfl (fun c12 => ?_) (fun c12 => ?_)
        · replace h := cond_t h c12
          refine tri_seq ?_
          refine tri_region ?_
          refine s_mv (.inr rfl) (v := .sc (.int .i64 (-1))) rfl rfl rfl rfl ?_
          refine rt_nil ?_
          refine tri_ret ?_
          have e0 := (some1 h); subst e0
          exact endY [] [] (rvC (resTmp rfl) rvN) trivial trivial rfl rfl rfl rfl (.free rfl)
        · replace h := cond_f h c12
          refine tri_skip ?_
          refine tri_seq ?_
          refine tri_region ?_
          refine s_mv (.inl rfl) (by conv => lhs; whnf) rfl rfl rfl ?_
          refine s_mv (.inr rfl) (by conv => lhs; whnf) rfl rfl rfl ?_
          refine rt_nil ?_
          refine tri_ret ?_
          have e0 := (some1 h); subst e0
          exact endY [] [] (rvC (resTmp rfl) rvN) trivial trivial rfl rfl rfl rfl (.free rfl)

/- laws.toRecord -/

set_option maxRecDepth 4000 in
set_option maxHeartbeats 800000 in
theorem ww_toRecord (p0 : Rec) (r0 : Rec) (h : w_toRecord p0 = some r0) : Runs Tryz.prog 127 [.agg (recV p0)] [] (.agg (recV r0)) [] := by
  unfold w_toRecord at h
  refine runsR [.cell 2 48] Tryz.func127 rfl rfl rfl rfl ?_
  rw [Tryz.ntmps127]
  refine tri_seq ?_
  refine tri_region ?_
  refine s_box rfl rfl rfl rfl rfl rfl rfl ?_
  refine s_alloc rfl rfl rfl zc48 rfl rfl rfl rfl rfl ?_
  refine rt_nil ?_
  refine tri_seq ?_
  refine tri_region ?_
  refine s_alloc rfl rfl rfl zc48 rfl rfl rfl rfl rfl ?_
  refine rt_nil ?_
  refine tri_seq ?_
  refine tri_region ?_
  refine s_fieldAddr rfl rfl fd140_0 rfl rfl rfl rfl ?_
  refine s_load rfl rfl rfl rfl ty9 rfl (.inr rfl) (by conv => lhs; whnf) rfl rfl rfl ?_
  refine s_fieldAddr rfl rfl fd48_0 rfl rfl rfl rfl ?_
  refine s_store (rows' := [[.sc (.string p0.name), .sc (.int .i64 0), .sc (.int .i64 0), .sc (.int .i64 0), .sc (.string (⟨#[]⟩ : ByteArray)), .sc (.string (⟨#[]⟩ : ByteArray))]]) rfl rfl rfl rfl ty9 rfl rfl rfl rfl rfl rfl ?_
  refine rt_nil ?_
  refine tri_seq ?_
  refine tri_region ?_
  refine s_fieldAddr rfl rfl fd140_1 rfl rfl rfl rfl ?_
  refine s_load rfl rfl rfl rfl ty3 rfl (.inr rfl) (by conv => lhs; whnf) rfl rfl rfl ?_
  refine s_fieldAddr rfl rfl fd48_1 rfl rfl rfl rfl ?_
  refine s_store (rows' := [[.sc (.string p0.name), .sc (.int .i64 p0.ty), .sc (.int .i64 0), .sc (.int .i64 0), .sc (.string (⟨#[]⟩ : ByteArray)), .sc (.string (⟨#[]⟩ : ByteArray))]]) rfl rfl rfl rfl ty3 rfl rfl rfl rfl rfl rfl ?_
  refine rt_nil ?_
  refine tri_seq ?_
  refine tri_region ?_
  refine s_fieldAddr rfl rfl fd140_2 rfl rfl rfl rfl ?_
  refine s_load rfl rfl rfl rfl ty3 rfl (.inr rfl) (by conv => lhs; whnf) rfl rfl rfl ?_
  refine s_fieldAddr rfl rfl fd48_2 rfl rfl rfl rfl ?_
  refine s_store (rows' := [[.sc (.string p0.name), .sc (.int .i64 p0.ty), .sc (.int .i64 p0.ttl), .sc (.int .i64 0), .sc (.string (⟨#[]⟩ : ByteArray)), .sc (.string (⟨#[]⟩ : ByteArray))]]) rfl rfl rfl rfl ty3 rfl rfl rfl rfl rfl rfl ?_
  refine rt_nil ?_
  refine tri_seq ?_
  refine tri_region ?_
  refine s_fieldAddr rfl rfl fd140_3 rfl rfl rfl rfl ?_
  refine s_load rfl rfl rfl rfl ty3 rfl (.inr rfl) (by conv => lhs; whnf) rfl rfl rfl ?_
  refine s_fieldAddr rfl rfl fd48_3 rfl rfl rfl rfl ?_
  refine s_store (rows' := [[.sc (.string p0.name), .sc (.int .i64 p0.ty), .sc (.int .i64 p0.ttl), .sc (.int .i64 p0.n), .sc (.string (⟨#[]⟩ : ByteArray)), .sc (.string (⟨#[]⟩ : ByteArray))]]) rfl rfl rfl rfl ty3 rfl rfl rfl rfl rfl rfl ?_
  refine rt_nil ?_
  refine tri_seq ?_
  refine tri_region ?_
  refine s_fieldAddr rfl rfl fd140_4 rfl rfl rfl rfl ?_
  refine s_load rfl rfl rfl rfl ty9 rfl (.inr rfl) (by conv => lhs; whnf) rfl rfl rfl ?_
  refine s_fieldAddr rfl rfl fd48_4 rfl rfl rfl rfl ?_
  refine s_store (rows' := [[.sc (.string p0.name), .sc (.int .i64 p0.ty), .sc (.int .i64 p0.ttl), .sc (.int .i64 p0.n), .sc (.string p0.host), .sc (.string (⟨#[]⟩ : ByteArray))]]) rfl rfl rfl rfl ty9 rfl rfl rfl rfl rfl rfl ?_
  refine rt_nil ?_
  refine tri_seq ?_
  refine tri_region ?_
  refine s_fieldAddr rfl rfl fd140_5 rfl rfl rfl rfl ?_
  refine s_load rfl rfl rfl rfl ty9 rfl (.inr rfl) (by conv => lhs; whnf) rfl rfl rfl ?_
  refine s_fieldAddr rfl rfl fd48_5 rfl rfl rfl rfl ?_
  refine s_store (rows' := [[.sc (.string p0.name), .sc (.int .i64 p0.ty), .sc (.int .i64 p0.ttl), .sc (.int .i64 p0.n), .sc (.string p0.host), .sc (.string p0.text)]]) rfl rfl rfl rfl ty9 rfl rfl rfl rfl rfl rfl ?_
  refine rt_nil ?_
  refine tri_seq ?_
  refine tri_region ?_
  refine s_loadR rfl rfl rfl rfl ty48 rfl rfl rfl ?_
  refine s_storeB rfl rfl rfl ty48 rfl rfl rfl rfl rfl ?_
  refine rt_nil ?_
  refine tri_ret ?_
  have e0 := (some1 h); subst e0
  exact endY [] [] (rvC (resCell rfl rfl ty48) rvN) trivial trivial rfl rfl rfl rfl (cvAgg rfl)

/- laws.toRecordS -/
def inv_w_toRecordS_0 (p0 : List Rec) (v0_0 : List Rec) (v0_1 : Nat) : St := mkT 23 [(0, .lst 6 (List.map recV p0)), (3, .ref (7, 0) 0 v0_0.length), (4, .sc (.int .i64 (v0_1 : Int)))] [((7, 0), some ⟨48, 6, List.map recV v0_0, false, true⟩)]
set_option maxRecDepth 4000 in
set_option maxHeartbeats 800000 in
theorem ww_toRecordS (p0 : List Rec) (r0 : List Rec) (h : w_toRecordS p0 = some r0) : Runs Tryz.prog 73 [.lst 6 (List.map recV p0)] [] (.own 48 6 (List.map recV r0)) [] := by
  unfold w_toRecordS at h
  refine runsR [.tmp 2] Tryz.func73 rfl rfl rfl rfl ?_
  rw [Tryz.ntmps73]
  refine tri_seq ?_
  refine tri_region ?_
  refine s_mv (.inr rfl) (v := .nils) rfl rfl rfl rfl ?_
  refine rt_nil ?_
  refine tri_seq ?_
  refine tri_region ?_
  refine s_mv (.inl rfl) (by conv => lhs; whnf) rfl rfl rfl ?_
  refine s_lenL rfl sl54 rfl rfl rfl rfl ?_
  refine grd_elim h fun g1 h => ?_
  refine s_makeL (f := recV) (a := Rec.mk (⟨#[]⟩ : ByteArray) 0 0 0 (⟨#[]⟩ : ByteArray) (⟨#[]⟩ : ByteArray)) rfl rfl rfl rfl rfl sl24 zc48 rfl rfl rfl rfl g1.1 g1.2 (rowZ_cv rfl (rowZ_cv rfl (rowZ_cv rfl (rowZ_cv rfl (rowZ_cv rfl (rowZ_cv rfl rowZ_nil)))))) rfl rfl ?_
  refine s_mv (.inr rfl) (by conv => lhs; whnf) rfl rfl rfl ?_
  refine rt_nil ?_
  refine tri_seq ?_
  refine tri_seq ?_
  refine tri_region ?_
  refine s_mv (.inr rfl) (v := .sc (.int .i64 0)) rfl rfl rfl rfl ?_
  refine rt_nil ?_
  refine tri_block ?_
  refine tri_lstM 0 rfl (fun hl0 => ?_)
  refine tri_loop (ι := { p : (List Rec) × (List Rec) × Nat // p0.drop p.2.2 = p.1 ∧ w_toRecordS_l0 p.1 p.2.1 p.2.2 = some r0 }) (fun p => inv_w_toRecordS_0 p0 p.1.2.1 p.1.2.2) (fun p => p.1.1.length) ⟨(p0, List.replicate (p0.length : Int).toNat (Rec.mk (⟨#[]⟩ : ByteArray) 0 0 0 (⟨#[]⟩ : ByteArray) (⟨#[]⟩ : ByteArray)), 0), rfl, h⟩ ?_ ?_
  · skip
    refine entX [((7, 0), ⟨48, 6, List.map recV (List.replicate (p0.length : Int).toNat (Rec.mk (⟨#[]⟩ : ByteArray) 0 0 0 (⟨#[]⟩ : ByteArray) (⟨#[]⟩ : ByteArray))), false, true⟩, some (7, 0))] [] ⟨⟨rfl, _, rfl, rfl, rfl, rfl, id, rowsCv_eq rfl (allFree_map recV_free), rowsZ_map recV_len⟩, trivial⟩ trivial rfl rfl ?_
    exact ⟨(.free rfl), (.ref rfl), (.free rfl), trivial⟩
  · rintro ⟨⟨lrs0, v0_0, v0_1⟩, hd0, h⟩
    replace hd0 : p0.drop v0_1 = lrs0 := hd0
    replace h : w_toRecordS_l0 lrs0 v0_0 v0_1 = some r0 := h
    show Tri _ _ _ (inv_w_toRecordS_0 p0 v0_0 v0_1)
    refine tri_seq ?_
    refine tri_seq ?_
    refine tri_region ?_
    refine s_mv (.inl rfl) (by conv => lhs; whnf) rfl rfl rfl ?_
    refine s_mv (.inl rfl) (by conv => lhs; whnf) rfl rfl rfl ?_
    refine s_lenL rfl sl54 rfl rfl rfl rfl ?_
    refine s_of (st_lss rfl rfl rfl) rfl rfl rfl rfl ?_
    refine rt_nil ?_
    refine tri_cond rfl (fun c2 => ?_) (fun c2 => ?_)
    · refine drop_elim hd0 c2 fun e0 rs0 he hx0 hn0 => ?_
      subst he
      rw [w_toRecordS_l0] at h
      refine tri_skip ?_
      refine tri_seq ?_
      refine tri_block ?_
      refine tri_region ?_
      refine s_mv (.inl rfl) (by conv => lhs; whnf) rfl rfl rfl ?_
      refine s_mv (.inl rfl) (by conv => lhs; whnf) rfl rfl rfl ?_
      refine s_mv (.inl rfl) (by conv => lhs; whnf) rfl rfl rfl ?_
      refine s_mv (.inl rfl) (by conv => lhs; whnf) rfl rfl rfl ?_
      refine s_indexF (i := v0_1) rfl rfl rfl sl54 (get_ltM hx0) rfl rfl rfl ?_
      refine s_loadFR rfl rfl (rowG hx0) ty140 rfl rfl rfl ?_
      refine bnd1_elim h fun x3 q4 h => ?_
      refine s_callN (kb := []) (ns := []) (v := .agg (recV x3)) rfl rfl cl127 (ww_toRecord e0 x3 q4) rfl (.cons (relAgg rfl) .nil) trivial memNil .nil memNil rfl trivial memNil rfl rfl rfl rfl rfl rfl ?_
      refine bnd1_elim h fun x5 q6 h => ?_
      have q6a := (idx_some q6).1; have q6b := (idx_some q6).2
      refine s_indexZ rfl rfl rfl rfl sl24 rfl q6a (get_lt q6b) rfl rfl rfl ?_
      refine s_storeL (x' := x3) rfl rfl rfl q6b ty48 rfl rfl rfl rfl rfl rfl ?_
      refine rt_nil ?_
      refine tri_region ?_
      refine s_mv (.inl rfl) (by conv => lhs; whnf) rfl rfl rfl ?_
      refine s_inc (a := v0_1) (b := 1) rfl rfl rfl rfl (by have := get_lt hx0; have := hl0; omega) rfl rfl rfl ?_
      refine s_mv (.inr rfl) (by conv => lhs; whnf) rfl rfl rfl ?_
      refine rt_nil ?_
      refine Exists.intro ⟨(rs0, v0_0.set ((v0_1 : Int).toNat) x3, (v0_1 + 1)), hn0, h⟩ (And.intro (Nat.lt_succ_self _) ?_)
      refine entX [((7, 0), ⟨48, 6, List.map recV (v0_0.set ((v0_1 : Int).toNat) x3), false, true⟩, some (7, 0))] [] ⟨⟨rfl, _, rfl, rfl, rfl, rfl, id, rowsCv_eq rfl (allFree_map recV_free), rowsZ_map recV_len⟩, trivial⟩ trivial rfl rfl ?_
      exact ⟨(.free rfl), (cvRefLen rfl (by simp only [List.length_set])), (.free rfl), trivial⟩
    · have he := drop_f hd0 c2; subst he
      rw [w_toRecordS_l0] at h
      refine tri_exit ?_
      refine tri_seq ?_
      refine tri_region ?_
      refine s_mv (.inl rfl) (by conv => lhs; whnf) rfl rfl rfl ?_
      refine s_mv (.inr rfl) (by conv => lhs; whnf) rfl rfl rfl ?_
      refine rt_nil ?_
      refine tri_ret ?_
      have e0 := (some1 h); subst e0
      exact endY (v' := .ref (2000, 0) 0 v0_0.length) [((2000, 0), ⟨48, 6, List.map recV v0_0, false, true⟩, some (7, 0))] [] (rvC (resTmp rfl) rvN) ⟨⟨rfl, _, rfl, rfl, rfl, rfl, id, rowsCv_eq rfl (allFree_map recV_free), rowsZ_map recV_len⟩, trivial⟩ trivial rfl rfl (by kernel_rfl) (by first | (simp only [V.mat, V.mat1, V.mat0, matL, matT, List.length_map]; done) | (simp only [V.mat, V.mat1, V.mat0, matL, matT, List.length_map]; rfl)) (.ref rfl)

/- laws.toZone -/

set_option maxRecDepth 4000 in
set_option maxHeartbeats 800000 in
theorem ww_toZone (p0 : MZone) (r0 : MZone) (h : w_toZone p0 = some r0) : Runs Tryz.prog 125 [.agg (mZoneV p0)] [] (.agg [.sc (.string r0.apex), .own 48 6 (List.map recV r0.l)]) [] := by
  unfold w_toZone at h
  refine runsR [.cell 2 83] Tryz.func125 rfl rfl rfl rfl ?_
  rw [Tryz.ntmps125]
  refine tri_seq ?_
  refine tri_region ?_
  refine s_box rfl rfl rfl rfl rfl rfl rfl ?_
  refine s_alloc rfl rfl rfl zc83 rfl rfl rfl rfl rfl ?_
  refine rt_nil ?_
  refine tri_seq ?_
  refine tri_region ?_
  refine s_alloc rfl rfl rfl zc83 rfl rfl rfl rfl rfl ?_
  refine rt_nil ?_
  refine tri_seq ?_
  refine tri_region ?_
  refine s_fieldAddr rfl rfl fd136_0 rfl rfl rfl rfl ?_
  refine s_load rfl rfl rfl rfl ty9 rfl (.inr rfl) (by conv => lhs; whnf) rfl rfl rfl ?_
  refine s_fieldAddr rfl rfl fd83_0 rfl rfl rfl rfl ?_
  refine s_store (rows' := [[.sc (.string p0.apex), .nils]]) rfl rfl rfl rfl ty9 rfl rfl rfl rfl rfl rfl ?_
  refine rt_nil ?_
  refine tri_seq ?_
  refine tri_region ?_
  refine s_fieldAddr rfl rfl fd136_1 rfl rfl rfl rfl ?_
  refine s_load rfl rfl rfl rfl ty54 rfl (.inr rfl) (by conv => lhs; whnf) rfl rfl rfl ?_
  refine bnd1_elim h fun x1 q2 h => ?_
  refine s_callN (kb := []) (ns := []) (v := .ref (9, 0) 0 x1.length) rfl rfl cl73 (ww_toRecordS p0.l x1 q2) rfl (.cons (.free rfl) .nil) trivial memNil .nil memNil rfl ⟨(allSc_map recV_sc), trivial⟩ memNil rfl (by first | (simp only [V.mat, V.mat1, V.mat0, matL, matT, List.length_map]; done) | (simp only [V.mat, V.mat1, V.mat0, matL, matT, List.length_map]; rfl)) rfl rfl rfl rfl ?_
  refine s_fieldAddr rfl rfl fd83_1 rfl rfl rfl rfl ?_
  refine s_store (rows' := [[.sc (.string p0.apex), .ref (9, 0) 0 x1.length]]) rfl rfl rfl rfl ty24 rfl rfl rfl rfl rfl rfl ?_
  refine rt_nil ?_
  refine tri_seq ?_
  refine tri_region ?_
  refine s_loadR rfl rfl rfl rfl ty83 rfl rfl rfl ?_
  refine s_storeB rfl rfl rfl ty83 rfl rfl rfl rfl rfl ?_
  refine rt_nil ?_
  refine tri_ret ?_
  have e0 := (some1 h); subst e0
  exact endY (v' := .agg [.sc (.string p0.apex), .ref (2000, 1) 0 x1.length]) [((2000, 1), ⟨48, 6, List.map recV x1, false, true⟩, some (9, 0))] [] (rvC (resCell rfl rfl ty83) rvN) ⟨⟨rfl, _, rfl, rfl, rfl, rfl, id, rowsCv_eq rfl (allFree_map recV_free), rowsZ_map recV_len⟩, trivial⟩ trivial rfl rfl (by kernel_rfl) (by first | (simp only [V.mat, V.mat1, V.mat0, matL, matT, List.length_map]; done) | (simp only [V.mat, V.mat1, V.mat0, matL, matT, List.length_map]; rfl)) (CvL.agg (.cons (.free rfl) (.cons (.ref rfl) .nil)))

/- laws.toZoneS -/
def inv_w_toZoneS_0 (p0 : List MZone) (v0_0 : List MZone) (v0_1 : Nat) : St := mkT 23 [(0, .lst 2 (List.map mZoneV p0)), (3, .ref (7, 0) 0 v0_0.length), (4, .sc (.int .i64 (v0_1 : Int)))] [((7, 0), some ⟨83, 2, List.map mZoneV v0_0, false, true⟩)]
set_option maxRecDepth 4000 in
set_option maxHeartbeats 800000 in
theorem ww_toZoneS (p0 : List MZone) (r0 : List MZone) (h : w_toZoneS p0 = some r0) : Runs Tryz.prog 70 [.lst 2 (List.map mZoneV p0)] [] (.own 83 2 (List.map mZoneV r0)) [] := by
  unfold w_toZoneS at h
  refine runsR [.tmp 2] Tryz.func70 rfl rfl rfl rfl ?_
  rw [Tryz.ntmps70]
  refine tri_seq ?_
  refine tri_region ?_
  refine s_mv (.inr rfl) (v := .nils) rfl rfl rfl rfl ?_
  refine rt_nil ?_
  refine tri_seq ?_
  refine tri_region ?_
  refine s_mv (.inl rfl) (by conv => lhs; whnf) rfl rfl rfl ?_
  refine s_lenL rfl sl49 rfl rfl rfl rfl ?_
  refine grd_elim h fun g1 h => ?_
  refine s_makeL (f := mZoneV) (a := MZone.mk (⟨#[]⟩ : ByteArray) ([] : List Rec)) rfl rfl rfl rfl rfl sl31 zc83 rfl rfl rfl rfl g1.1 g1.2 (rowZ_cv rfl (rowZ_lst rowZ_nil)) rfl rfl ?_
  refine s_mv (.inr rfl) (by conv => lhs; whnf) rfl rfl rfl ?_
  refine rt_nil ?_
  refine tri_seq ?_
  refine tri_seq ?_
  refine tri_region ?_
  refine s_mv (.inr rfl) (v := .sc (.int .i64 0)) rfl rfl rfl rfl ?_
  refine rt_nil ?_
  refine tri_block ?_
  refine tri_lstM 0 rfl (fun hl0 => ?_)
  refine tri_loop (ι := { p : (List MZone) × (List MZone) × Nat // p0.drop p.2.2 = p.1 ∧ w_toZoneS_l0 p.1 p.2.1 p.2.2 = some r0 }) (fun p => inv_w_toZoneS_0 p0 p.1.2.1 p.1.2.2) (fun p => p.1.1.length) ⟨(p0, List.replicate (p0.length : Int).toNat (MZone.mk (⟨#[]⟩ : ByteArray) ([] : List Rec)), 0), rfl, h⟩ ?_ ?_
  · skip
    refine entX [((7, 0), ⟨83, 2, List.map mZoneV (List.replicate (p0.length : Int).toNat (MZone.mk (⟨#[]⟩ : ByteArray) ([] : List Rec))), false, true⟩, some (7, 0))] [] ⟨⟨rfl, _, rfl, rfl, rfl, rfl, id, rowsCv_eq rfl (allFree_map mZoneV_free), rowsZ_map mZoneV_len⟩, trivial⟩ trivial rfl rfl ?_
    exact ⟨(.free rfl), (.ref rfl), (.free rfl), trivial⟩
  · rintro ⟨⟨lrs0, v0_0, v0_1⟩, hd0, h⟩
    replace hd0 : p0.drop v0_1 = lrs0 := hd0
    replace h : w_toZoneS_l0 lrs0 v0_0 v0_1 = some r0 := h
    show Tri _ _ _ (inv_w_toZoneS_0 p0 v0_0 v0_1)
    refine tri_seq ?_
    refine tri_seq ?_
    refine tri_region ?_
    refine s_mv (.inl rfl) (by conv => lhs; whnf) rfl rfl rfl ?_
    refine s_mv (.inl rfl) (by conv => lhs; whnf) rfl rfl rfl ?_
    refine s_lenL rfl sl49 rfl rfl rfl rfl ?_
    refine s_of (st_lss rfl rfl rfl) rfl rfl rfl rfl ?_
    refine rt_nil ?_
    refine tri_cond rfl (fun c2 => ?_) (fun c2 => ?_)
    · refine drop_elim hd0 c2 fun e0 rs0 he hx0 hn0 => ?_
      subst he
      rw [w_toZoneS_l0] at h
      refine tri_skip ?_
      refine tri_seq ?_
      refine tri_block ?_
      refine tri_region ?_
      refine s_mv (.inl rfl) (by conv => lhs; whnf) rfl rfl rfl ?_
      refine s_mv (.inl rfl) (by conv => lhs; whnf) rfl rfl rfl ?_
      refine s_mv (.inl rfl) (by conv => lhs; whnf) rfl rfl rfl ?_
      refine s_mv (.inl rfl) (by conv => lhs; whnf) rfl rfl rfl ?_
      refine s_indexF (i := v0_1) rfl rfl rfl sl49 (get_ltM hx0) rfl rfl rfl ?_
      refine s_loadFR rfl rfl (rowG hx0) ty136 rfl rfl rfl ?_
      refine bnd1_elim h fun x3 q4 h => ?_
      refine s_callNF (kb := []) (ns := []) (v := .agg [.sc (.string x3.apex), .ref (20, 1) 0 x3.l.length]) (D := [(20, 1)]) rfl rfl cl125 (ww_toZone e0 x3 q4) rfl (.cons (relAgg rfl) .nil) trivial memNil .nil memNil rfl ⟨(allSc_map recV_sc), trivial⟩ memNil rfl (by first | (simp only [V.mat, V.mat1, V.mat0, matL, matT, List.length_map]; done) | (simp only [V.mat, V.mat1, V.mat0, matL, matT, List.length_map]; rfl)) rfl ⟨⟨rfl, rfl, _, rfl, rfl⟩, trivial⟩ (relAggL (.cons (.free rfl) (.cons (lendL rfl (.head _) rfl recV_free recV_len) .nil))) rfl rfl rfl ?_
      refine bnd1_elim h fun x5 q6 h => ?_
      have q6a := (idx_some q6).1; have q6b := (idx_some q6).2
      refine s_indexZ rfl rfl rfl rfl sl31 rfl q6a (get_lt q6b) rfl rfl rfl ?_
      refine s_storeL (x' := x3) rfl rfl rfl q6b ty83 rfl rfl rfl rfl rfl rfl ?_
      refine rt_nil ?_
      refine tri_region ?_
      refine s_mv (.inl rfl) (by conv => lhs; whnf) rfl rfl rfl ?_
      refine s_inc (a := v0_1) (b := 1) rfl rfl rfl rfl (by have := get_lt hx0; have := hl0; omega) rfl rfl rfl ?_
      refine s_mv (.inr rfl) (by conv => lhs; whnf) rfl rfl rfl ?_
      refine rt_nil ?_
      refine Exists.intro ⟨(rs0, v0_0.set ((v0_1 : Int).toNat) x3, (v0_1 + 1)), hn0, h⟩ (And.intro (Nat.lt_succ_self _) ?_)
      refine entX [((7, 0), ⟨83, 2, List.map mZoneV (v0_0.set ((v0_1 : Int).toNat) x3), false, true⟩, some (7, 0))] [] ⟨⟨rfl, _, rfl, rfl, rfl, rfl, id, rowsCv_eq rfl (allFree_map mZoneV_free), rowsZ_map mZoneV_len⟩, trivial⟩ trivial rfl rfl ?_
      exact ⟨(.free rfl), (cvRefLen rfl (by simp only [List.length_set])), (.free rfl), trivial⟩
    · have he := drop_f hd0 c2; subst he
      rw [w_toZoneS_l0] at h
      refine tri_exit ?_
      refine tri_seq ?_
      refine tri_region ?_
      refine s_mv (.inl rfl) (by conv => lhs; whnf) rfl rfl rfl ?_
      refine s_mv (.inr rfl) (by conv => lhs; whnf) rfl rfl rfl ?_
      refine rt_nil ?_
      refine tri_ret ?_
      have e0 := (some1 h); subst e0
      exact endY (v' := .ref (2000, 0) 0 v0_0.length) [((2000, 0), ⟨83, 2, List.map mZoneV v0_0, false, true⟩, some (7, 0))] [] (rvC (resTmp rfl) rvN) ⟨⟨rfl, _, rfl, rfl, rfl, rfl, id, rowsCv_eq rfl (allFree_map mZoneV_free), rowsZ_map mZoneV_len⟩, trivial⟩ trivial rfl rfl (by kernel_rfl) (by first | (simp only [V.mat, V.mat1, V.mat0, matL, matT, List.length_map]; done) | (simp only [V.mat, V.mat1, V.mat0, matL, matT, List.length_map]; rfl)) (.ref rfl)
def mZoneN (m : Nm) (x : MZone) : List V := [.sc (.string x.apex), .ref m 0 x.l.length]
def mZoneG (x : MZone) : Entry := ⟨48, 6, List.map recV x.l, false, true⟩
theorem mZoneN_z (m : Nm) (x : MZone) : (mZoneN m x).length = 2 := rfl
theorem mZoneN_cv {hp : Heap} {src : Nm → Option Nm} {D : List Nm} {N : Nm → Option Nat} {m m' : Nm} (x : MZone) (h : src m' = some m) : CvL hp src D N (mZoneN m x) (mZoneN m' x) := (.cons (.free rfl) (.cons (.ref h) .nil))
theorem mZoneG_f (x : MZone) : AllFree (mZoneG x).rows := allFree_map recV_free
theorem mZoneG_z (x : MZone) (r : List V) (hr : r ∈ (mZoneG x).rows) : r.length = (mZoneG x).z := rowsZ_map recV_len r hr
def mZoneP (x : MZone) : Entry := ⟨48, 6, List.map recV x.l, false, false⟩
theorem mZoneP_f (x : MZone) : AllFree (mZoneP x).rows := allFree_map recV_free
theorem mZoneP_z (x : MZone) (r : List V) (hr : r ∈ (mZoneP x).rows) : r.length = (mZoneP x).z := rowsZ_map recV_len r hr

def invR_w_toZoneS_0 (p0 : List MZone) (v0_0 : List MZone) (v0_1 : Nat) : St := mkT 23 [(0, .lst 2 (List.map mZoneV p0)), (3, .ref (7, 0) 0 v0_0.length), (4, .sc (.int .i64 (v0_1 : Int)))] (((7, 0), some ⟨83, 2, nr 3000 mZoneN 0 v0_0, false, true⟩) :: (fam 3000 0 (List.map mZoneG v0_0) ++ []))
set_option maxRecDepth 4000 in
set_option maxHeartbeats 800000 in
theorem wRw_toZoneS (p0 : List MZone) (r0 : List MZone) (h : w_toZoneS p0 = some r0) : RunsG Tryz.prog 70 [.lst 2 (List.map mZoneV p0)] [] (.ref (2000, 0) 0 r0.length) ((0, ⟨83, 2, nr 2000 mZoneN 10000 r0, false, true⟩) :: famO 10000 (List.map mZoneG r0)) [] := by
  unfold w_toZoneS at h
  refine runsG [.tmp 2] Tryz.func70 rfl rfl rfl rfl ?_
  rw [Tryz.ntmps70]
  refine tri_seq ?_
  refine tri_region ?_
  refine s_mv (.inr rfl) (v := .nils) rfl rfl rfl rfl ?_
  refine rt_nil ?_
  refine tri_seq ?_
  refine tri_region ?_
  refine s_mv (.inl rfl) (by conv => lhs; whnf) rfl rfl rfl ?_
  refine s_lenL rfl sl49 rfl rfl rfl rfl ?_
  refine grd_elim h fun g1 h => ?_
  refine s_makeL (f := fun (_ : Unit) => [.sc (.string (⟨#[]⟩ : ByteArray)), .nils]) (a := ()) rfl rfl rfl rfl rfl sl31 zc83 rfl rfl rfl rfl g1.1 g1.2 (rowZ_cv rfl (rowZ_nils rowZ_nil)) rfl rfl ?_
  refine s_mv (.inr rfl) (by conv => lhs; whnf) rfl rfl rfl ?_
  refine rt_nil ?_
  refine tri_seq ?_
  refine tri_seq ?_
  refine tri_region ?_
  refine s_mv (.inr rfl) (v := .sc (.int .i64 0)) rfl rfl rfl rfl ?_
  refine rt_nil ?_
  refine tri_block ?_
  refine tri_lstM 0 rfl (fun hl0 => ?_)
  refine tri_loop (ι := { p : (List MZone) × (List MZone) × Nat // p0.drop p.2.2 = p.1 ∧ w_toZoneS_l0 p.1 p.2.1 p.2.2 = some r0 }) (fun p => invR_w_toZoneS_0 p0 p.1.2.1 p.1.2.2) (fun p => p.1.1.length) ⟨(p0, List.replicate (p0.length : Int).toNat (MZone.mk (⟨#[]⟩ : ByteArray) ([] : List Rec)), 0), rfl, h⟩ ?_ ?_
  · skip
    refine nest_zero (x0 := MZone.mk (⟨#[]⟩ : ByteArray) ([] : List Rec)) rfl rfl mZoneN_z (fun h => (.cons (.free rfl) (.cons (.nilRef h) .nil))) rfl (fun _ => rfl) (fun _ => rfl) ?_
    exact ⟨(.free rfl), (cvRefLen rfl (by simp only [List.length_replicate])), (.free rfl), trivial⟩
  · rintro ⟨⟨lrs0, v0_0, v0_1⟩, hd0, h⟩
    replace hd0 : p0.drop v0_1 = lrs0 := hd0
    replace h : w_toZoneS_l0 lrs0 v0_0 v0_1 = some r0 := h
    show Tri _ _ _ (invR_w_toZoneS_0 p0 v0_0 v0_1)
    refine tri_seq ?_
    refine tri_seq ?_
    refine tri_region ?_
    refine s_mv (.inl rfl) (by conv => lhs; whnf) rfl rfl rfl ?_
    refine s_mv (.inl rfl) (by conv => lhs; whnf) rfl rfl rfl ?_
    refine s_lenL rfl sl49 rfl rfl rfl rfl ?_
    refine s_of (st_lss rfl rfl rfl) rfl rfl rfl rfl ?_
    refine rt_nil ?_
    refine tri_cond rfl (fun c2 => ?_) (fun c2 => ?_)
    · refine drop_elim hd0 c2 fun e0 rs0 he hx0 hn0 => ?_
      subst he
      rw [w_toZoneS_l0] at h
      refine tri_skip ?_
      refine tri_seq ?_
      refine tri_block ?_
      refine tri_region ?_
      refine s_mv (.inl rfl) (by conv => lhs; whnf) rfl rfl rfl ?_
      refine s_mv (.inl rfl) (by conv => lhs; whnf) rfl rfl rfl ?_
      refine s_mv (.inl rfl) (by conv => lhs; whnf) rfl rfl rfl ?_
      refine s_mv (.inl rfl) (by conv => lhs; whnf) rfl rfl rfl ?_
      refine s_indexF (i := v0_1) rfl rfl rfl sl49 (get_ltM hx0) rfl rfl rfl ?_
      refine s_loadFR rfl rfl (rowG hx0) ty136 rfl rfl rfl ?_
      refine bnd1_elim h fun x3 q4 h => ?_
      refine s_callN (kb := []) (ns := []) (v := .agg [.sc (.string x3.apex), .ref (20, 1) 0 x3.l.length]) rfl rfl cl125 (ww_toZone e0 x3 q4) rfl (.cons (relAgg rfl) .nil) trivial memNil .nil memNil rfl ⟨(allSc_map recV_sc), trivial⟩ memNil (hab1 (lkNo rfl (famNo rfl rfl))) (by first | (simp only [V.mat, V.mat1, V.mat0, matL, matT, List.length_map]; done) | (simp only [V.mat, V.mat1, V.mat0, matL, matT, List.length_map]; rfl)) rfl rfl rfl rfl ?_
      refine bnd1_elim h fun x5 q6 h => ?_
      have q6a := (idx_some q6).1; have q6b := (idx_some q6).2
      refine s_indexZ rfl rfl rfl rfl sl31 rfl q6a (get_lt q6b) rfl rfl rfl ?_
      refine s_store (rows' := (nr 3000 mZoneN 0 v0_0).set (v0_1 : Int).toNat [.sc (.string x3.apex), .ref (20, 1) 0 x3.l.length]) rfl rfl rfl (nr_get q6b) ty83 rfl rfl rfl rfl rfl rfl ?_
      refine rt_nil ?_
      refine tri_region ?_
      refine s_mv (.inl rfl) (by conv => lhs; whnf) rfl rfl rfl ?_
      refine s_inc (a := v0_1) (b := 1) rfl rfl rfl rfl (by have := get_lt hx0; have := hl0; omega) rfl rfl rfl ?_
      refine s_mv (.inr rfl) (by conv => lhs; whnf) rfl rfl rfl ?_
      refine rt_nil ?_
      refine Exists.intro ⟨(rs0, v0_0.set ((v0_1 : Int).toNat) x3, (v0_1 + 1)), hn0, h⟩ (And.intro (Nat.lt_succ_self _) ?_)
      refine nest_set (c := (20, 1)) rfl rfl rfl (fun j y hy => lkTo rfl (lkTo rfl (lkTo rfl (fam_lk (by rw [List.getElem?_map, hy]; rfl))))) mZoneN_z (fun x h => mZoneN_cv x h) mZoneG_f mZoneG_z (fun _ => rfl) rfl rfl (fun j => lkNo rfl (lkNo rfl (lkNo rfl (famNo rfl rfl)))) ?_
      exact ⟨(.free rfl), (cvRefLen rfl (by simp only [List.length_set])), (.free rfl), trivial⟩
    · have he := drop_f hd0 c2; subst he
      rw [w_toZoneS_l0] at h
      refine tri_exit ?_
      refine tri_seq ?_
      refine tri_region ?_
      refine s_mv (.inl rfl) (by conv => lhs; whnf) rfl rfl rfl ?_
      refine s_mv (.inr rfl) (by conv => lhs; whnf) rfl rfl rfl ?_
      refine rt_nil ?_
      refine tri_ret ?_
      have e0 := (some1 h); subst e0
      exact nest_endS rfl (fun j y hy => lkTo rfl (fam_lk (by rw [List.getElem?_map, hy]; rfl))) mZoneN_z (fun x h => mZoneN_cv x h) mZoneG_f mZoneG_z (fun _ => rfl) (fun j => lkNo rfl (famNo rfl rfl)) (rvC (resTmp rfl) rvN)

/- laws.toPost -/

set_option maxRecDepth 4000 in
set_option maxHeartbeats 800000 in
theorem ww_toPost (p0 : MPost) (r0 : MPost) (h : w_toPost p0 = some r0) : Runs Tryz.prog 126 [.agg (mPostV p0)] [] (.agg (mPostV r0)) [] := by
  unfold w_toPost at h
  refine runsR [.cell 2 133] Tryz.func126 rfl rfl rfl rfl ?_
  rw [Tryz.ntmps126]
  refine tri_seq ?_
  refine tri_region ?_
  refine s_box rfl rfl rfl rfl rfl rfl rfl ?_
  refine s_alloc rfl rfl rfl zc133 rfl rfl rfl rfl rfl ?_
  refine rt_nil ?_
  refine tri_seq ?_
  refine tri_region ?_
  refine s_alloc rfl rfl rfl zc133 rfl rfl rfl rfl rfl ?_
  refine rt_nil ?_
  refine tri_seq ?_
  refine tri_region ?_
  refine s_fieldAddr rfl rfl fd138_0 rfl rfl rfl rfl ?_
  refine s_load rfl rfl rfl rfl ty3 rfl (.inr rfl) (by conv => lhs; whnf) rfl rfl rfl ?_
  refine s_fieldAddr rfl rfl fd133_0 rfl rfl rfl rfl ?_
  refine s_store (rows' := [[.sc (.int .i64 p0.addr), .sc (.string (⟨#[]⟩ : ByteArray))]]) rfl rfl rfl rfl ty3 rfl rfl rfl rfl rfl rfl ?_
  refine rt_nil ?_
  refine tri_seq ?_
  refine tri_region ?_
  refine s_fieldAddr rfl rfl fd138_1 rfl rfl rfl rfl ?_
  refine s_load rfl rfl rfl rfl ty9 rfl (.inr rfl) (by conv => lhs; whnf) rfl rfl rfl ?_
  refine s_fieldAddr rfl rfl fd133_1 rfl rfl rfl rfl ?_
  refine s_store (rows' := [[.sc (.int .i64 p0.addr), .sc (.string p0.apex)]]) rfl rfl rfl rfl ty9 rfl rfl rfl rfl rfl rfl ?_
  refine rt_nil ?_
  refine tri_seq ?_
  refine tri_region ?_
  refine s_loadR rfl rfl rfl rfl ty133 rfl rfl rfl ?_
  refine s_storeB rfl rfl rfl ty133 rfl rfl rfl rfl rfl ?_
  refine rt_nil ?_
  refine tri_ret ?_
  have e0 := (some1 h); subst e0
  exact endY [] [] (rvC (resCell rfl rfl ty133) rvN) trivial trivial rfl rfl rfl rfl (cvAgg rfl)

/- laws.toPostS -/
def inv_w_toPostS_0 (p0 : List MPost) (v0_0 : List MPost) (v0_1 : Nat) : St := mkT 23 [(0, .lst 2 (List.map mPostV p0)), (3, .ref (7, 0) 0 v0_0.length), (4, .sc (.int .i64 (v0_1 : Int)))] [((7, 0), some ⟨133, 2, List.map mPostV v0_0, false, true⟩)]
set_option maxRecDepth 4000 in
set_option maxHeartbeats 800000 in
theorem ww_toPostS (p0 : List MPost) (r0 : List MPost) (h : w_toPostS p0 = some r0) : Runs Tryz.prog 71 [.lst 2 (List.map mPostV p0)] [] (.own 133 2 (List.map mPostV r0)) [] := by
  unfold w_toPostS at h
  refine runsR [.tmp 2] Tryz.func71 rfl rfl rfl rfl ?_
  rw [Tryz.ntmps71]
  refine tri_seq ?_
  refine tri_region ?_
  refine s_mv (.inr rfl) (v := .nils) rfl rfl rfl rfl ?_
  refine rt_nil ?_
  refine tri_seq ?_
  refine tri_region ?_
  refine s_mv (.inl rfl) (by conv => lhs; whnf) rfl rfl rfl ?_
  refine s_lenL rfl sl50 rfl rfl rfl rfl ?_
  refine grd_elim h fun g1 h => ?_
  refine s_makeL (f := mPostV) (a := MPost.mk 0 (⟨#[]⟩ : ByteArray)) rfl rfl rfl rfl rfl sl32 zc133 rfl rfl rfl rfl g1.1 g1.2 (rowZ_cv rfl (rowZ_cv rfl rowZ_nil)) rfl rfl ?_
  refine s_mv (.inr rfl) (by conv => lhs; whnf) rfl rfl rfl ?_
  refine rt_nil ?_
  refine tri_seq ?_
  refine tri_seq ?_
  refine tri_region ?_
  refine s_mv (.inr rfl) (v := .sc (.int .i64 0)) rfl rfl rfl rfl ?_
  refine rt_nil ?_
  refine tri_block ?_
  refine tri_lstM 0 rfl (fun hl0 => ?_)
  refine tri_loop (ι := { p : (List MPost) × (List MPost) × Nat // p0.drop p.2.2 = p.1 ∧ w_toPostS_l0 p.1 p.2.1 p.2.2 = some r0 }) (fun p => inv_w_toPostS_0 p0 p.1.2.1 p.1.2.2) (fun p => p.1.1.length) ⟨(p0, List.replicate (p0.length : Int).toNat (MPost.mk 0 (⟨#[]⟩ : ByteArray)), 0), rfl, h⟩ ?_ ?_
  · skip
    refine entX [((7, 0), ⟨133, 2, List.map mPostV (List.replicate (p0.length : Int).toNat (MPost.mk 0 (⟨#[]⟩ : ByteArray))), false, true⟩, some (7, 0))] [] ⟨⟨rfl, _, rfl, rfl, rfl, rfl, id, rowsCv_eq rfl (allFree_map mPostV_free), rowsZ_map mPostV_len⟩, trivial⟩ trivial rfl rfl ?_
    exact ⟨(.free rfl), (.ref rfl), (.free rfl), trivial⟩
  · rintro ⟨⟨lrs0, v0_0, v0_1⟩, hd0, h⟩
    replace hd0 : p0.drop v0_1 = lrs0 := hd0
    replace h : w_toPostS_l0 lrs0 v0_0 v0_1 = some r0 := h
    show Tri _ _ _ (inv_w_toPostS_0 p0 v0_0 v0_1)
    refine tri_seq ?_
    refine tri_seq ?_
    refine tri_region ?_
    refine s_mv (.inl rfl) (by conv => lhs; whnf) rfl rfl rfl ?_
    refine s_mv (.inl rfl) (by conv => lhs; whnf) rfl rfl rfl ?_
    refine s_lenL rfl sl50 rfl rfl rfl rfl ?_
    refine s_of (st_lss rfl rfl rfl) rfl rfl rfl rfl ?_
    refine rt_nil ?_
    refine tri_cond rfl (fun c2 => ?_) (fun c2 => ?_)
    · refine drop_elim hd0 c2 fun e0 rs0 he hx0 hn0 => ?_
      subst he
      rw [w_toPostS_l0] at h
      refine tri_skip ?_
      refine tri_seq ?_
      refine tri_block ?_
      refine tri_region ?_
      refine s_mv (.inl rfl) (by conv => lhs; whnf) rfl rfl rfl ?_
      refine s_mv (.inl rfl) (by conv => lhs; whnf) rfl rfl rfl ?_
      refine s_mv (.inl rfl) (by conv => lhs; whnf) rfl rfl rfl ?_
      refine s_mv (.inl rfl) (by conv => lhs; whnf) rfl rfl rfl ?_
      refine s_indexF (i := v0_1) rfl rfl rfl sl50 (get_ltM hx0) rfl rfl rfl ?_
      refine s_loadFR rfl rfl (rowG hx0) ty138 rfl rfl rfl ?_
      refine bnd1_elim h fun x3 q4 h => ?_
      refine s_callN (kb := []) (ns := []) (v := .agg (mPostV x3)) rfl rfl cl126 (ww_toPost e0 x3 q4) rfl (.cons (relAgg rfl) .nil) trivial memNil .nil memNil rfl trivial memNil rfl rfl rfl rfl rfl rfl ?_
      refine bnd1_elim h fun x5 q6 h => ?_
      have q6a := (idx_some q6).1; have q6b := (idx_some q6).2
      refine s_indexZ rfl rfl rfl rfl sl32 rfl q6a (get_lt q6b) rfl rfl rfl ?_
      refine s_storeL (x' := x3) rfl rfl rfl q6b ty133 rfl rfl rfl rfl rfl rfl ?_
      refine rt_nil ?_
      refine tri_region ?_
      refine s_mv (.inl rfl) (by conv => lhs; whnf) rfl rfl rfl ?_
      refine s_inc (a := v0_1) (b := 1) rfl rfl rfl rfl (by have := get_lt hx0; have := hl0; omega) rfl rfl rfl ?_
      refine s_mv (.inr rfl) (by conv => lhs; whnf) rfl rfl rfl ?_
      refine rt_nil ?_
      refine Exists.intro ⟨(rs0, v0_0.set ((v0_1 : Int).toNat) x3, (v0_1 + 1)), hn0, h⟩ (And.intro (Nat.lt_succ_self _) ?_)
      refine entX [((7, 0), ⟨133, 2, List.map mPostV (v0_0.set ((v0_1 : Int).toNat) x3), false, true⟩, some (7, 0))] [] ⟨⟨rfl, _, rfl, rfl, rfl, rfl, id, rowsCv_eq rfl (allFree_map mPostV_free), rowsZ_map mPostV_len⟩, trivial⟩ trivial rfl rfl ?_
      exact ⟨(.free rfl), (cvRefLen rfl (by simp only [List.length_set])), (.free rfl), trivial⟩
    · have he := drop_f hd0 c2; subst he
      rw [w_toPostS_l0] at h
      refine tri_exit ?_
      refine tri_seq ?_
      refine tri_region ?_
      refine s_mv (.inl rfl) (by conv => lhs; whnf) rfl rfl rfl ?_
      refine s_mv (.inr rfl) (by conv => lhs; whnf) rfl rfl rfl ?_
      refine rt_nil ?_
      refine tri_ret ?_
      have e0 := (some1 h); subst e0
      exact endY (v' := .ref (2000, 0) 0 v0_0.length) [((2000, 0), ⟨133, 2, List.map mPostV v0_0, false, true⟩, some (7, 0))] [] (rvC (resTmp rfl) rvN) ⟨⟨rfl, _, rfl, rfl, rfl, rfl, id, rowsCv_eq rfl (allFree_map mPostV_free), rowsZ_map mPostV_len⟩, trivial⟩ trivial rfl rfl (by kernel_rfl) (by first | (simp only [V.mat, V.mat1, V.mat0, matL, matT, List.length_map]; done) | (simp only [V.mat, V.mat1, V.mat0, matL, matT, List.length_map]; rfl)) (.ref rfl)

/- laws.toForest -/

set_option maxRecDepth 4000 in
set_option maxHeartbeats 800000 in
theorem ww_toForest (p0 : MForest) (r0 : MForest) (h : w_toForest p0 = some r0) : Runs Tryz.prog 28 [.agg (mForestV p0)] [] (.agg [.own 83 2 (List.map mZoneV r0.zones), .own 133 2 (List.map mPostV r0.posts)]) [] := by
  unfold w_toForest at h
  refine runsR [.cell 2 34] Tryz.func28 rfl rfl rfl rfl ?_
  rw [Tryz.ntmps28]
  refine tri_seq ?_
  refine tri_region ?_
  refine s_box rfl rfl rfl rfl rfl rfl rfl ?_
  refine s_alloc rfl rfl rfl zc34 rfl rfl rfl rfl rfl ?_
  refine rt_nil ?_
  refine tri_seq ?_
  refine tri_region ?_
  refine s_alloc rfl rfl rfl zc34 rfl rfl rfl rfl rfl ?_
  refine rt_nil ?_
  refine tri_seq ?_
  refine tri_region ?_
  refine s_fieldAddr rfl rfl fd52_0 rfl rfl rfl rfl ?_
  refine s_load rfl rfl rfl rfl ty49 rfl (.inr rfl) (by conv => lhs; whnf) rfl rfl rfl ?_
  refine bnd1_elim h fun x1 q2 h => ?_
  refine s_callZ (kb := []) (ns := []) (v := .ref (6, 0) 0 x1.length) rfl rfl cl70 (ww_toZoneS p0.zones x1 q2) rfl (.cons (.free rfl) .nil) trivial memNil .nil memNil trivial rfl ⟨(allFree_map mZoneV_free), trivial⟩ memNil rfl (by first | (simp only [V.mat, V.mat1, V.mat0, matL, matT, List.length_map]; done) | (simp only [V.mat, V.mat1, V.mat0, matL, matT, List.length_map]; rfl)) rfl rfl rfl rfl ?_
  refine s_fieldAddr rfl rfl fd34_0 rfl rfl rfl rfl ?_
  refine s_store (rows' := [[.ref (6, 0) 0 x1.length, .nils]]) rfl rfl rfl rfl ty31 rfl rfl rfl rfl rfl rfl ?_
  refine rt_nil ?_
  refine tri_seq ?_
  refine tri_region ?_
  refine s_fieldAddr rfl rfl fd52_1 rfl rfl rfl rfl ?_
  refine s_load rfl rfl rfl rfl ty50 rfl (.inr rfl) (by conv => lhs; whnf) rfl rfl rfl ?_
  refine bnd1_elim h fun x3 q4 h => ?_
  refine s_callN (kb := []) (ns := []) (v := .ref (10, 0) 0 x3.length) rfl rfl cl71 (ww_toPostS p0.posts x3 q4) rfl (.cons (.free rfl) .nil) trivial memNil .nil memNil rfl ⟨(allSc_map mPostV_sc), trivial⟩ memNil rfl (by first | (simp only [V.mat, V.mat1, V.mat0, matL, matT, List.length_map]; done) | (simp only [V.mat, V.mat1, V.mat0, matL, matT, List.length_map]; rfl)) rfl rfl rfl rfl ?_
  refine s_fieldAddr rfl rfl fd34_1 rfl rfl rfl rfl ?_
  refine s_store (rows' := [[.ref (6, 0) 0 x1.length, .ref (10, 0) 0 x3.length]]) rfl rfl rfl rfl ty32 rfl rfl rfl rfl rfl rfl ?_
  refine rt_nil ?_
  refine tri_seq ?_
  refine tri_region ?_
  refine s_loadR rfl rfl rfl rfl ty34 rfl rfl rfl ?_
  refine s_storeB rfl rfl rfl ty34 rfl rfl rfl rfl rfl ?_
  refine rt_nil ?_
  refine tri_ret ?_
  have e0 := (some1 h); subst e0
  exact endY (v' := .agg [.ref (2000, 0) 0 x1.length, .ref (2000, 1) 0 x3.length]) [((2000, 0), ⟨83, 2, List.map mZoneV x1, false, true⟩, some (6, 0)), ((2000, 1), ⟨133, 2, List.map mPostV x3, false, true⟩, some (10, 0))] [] (rvC (resCell rfl rfl ty34) rvN) ⟨⟨rfl, _, rfl, rfl, rfl, rfl, id, rowsCv_eq rfl (allFree_map mZoneV_free), rowsZ_map mZoneV_len⟩, ⟨rfl, _, rfl, rfl, rfl, rfl, id, rowsCv_eq rfl (allFree_map mPostV_free), rowsZ_map mPostV_len⟩, trivial⟩ trivial rfl rfl (by kernel_rfl) (by first | (simp only [V.mat, V.mat1, V.mat0, matL, matT, List.length_map]; done) | (simp only [V.mat, V.mat1, V.mat0, matL, matT, List.length_map]; rfl)) (CvL.agg (.cons (.ref rfl) (.cons (.ref rfl) .nil)))
set_option maxRecDepth 4000 in
set_option maxHeartbeats 800000 in
theorem wRw_toForest (p0 : MForest) (r0 : MForest) (h : w_toForest p0 = some r0) : RunsG Tryz.prog 28 [.agg (mForestV p0)] [] (.agg [.ref (2000, 0) 0 r0.zones.length, .ref (2000, 1) 0 r0.posts.length]) ([(0, ⟨83, 2, nr 2000 mZoneN 10000 r0.zones, false, true⟩), (1, ⟨133, 2, List.map mPostV r0.posts, false, true⟩)] ++ famO 10000 (List.map mZoneG r0.zones)) [] := by
  unfold w_toForest at h
  refine runsG [.cell 2 34] Tryz.func28 rfl rfl rfl rfl ?_
  rw [Tryz.ntmps28]
  refine tri_seq ?_
  refine tri_region ?_
  refine s_box rfl rfl rfl rfl rfl rfl rfl ?_
  refine s_alloc rfl rfl rfl zc34 rfl rfl rfl rfl rfl ?_
  refine rt_nil ?_
  refine tri_seq ?_
  refine tri_region ?_
  refine s_alloc rfl rfl rfl zc34 rfl rfl rfl rfl rfl ?_
  refine rt_nil ?_
  refine tri_seq ?_
  refine tri_region ?_
  refine s_fieldAddr rfl rfl fd52_0 rfl rfl rfl rfl ?_
  refine s_load rfl rfl rfl rfl ty49 rfl (.inr rfl) (by conv => lhs; whnf) rfl rfl rfl ?_
  refine bnd1_elim h fun x1 q2 h => ?_
  refine s_callRt (kb := []) (os' := [(0, ⟨83, 2, nr 6 mZoneN 10000 x1, false, true⟩)]) (y := .ref (6, 0) 0 x1.length) rfl rfl cl70 (wRw_toZoneS p0.zones x1 q2) rfl (.cons (.free rfl) .nil) (.cons (outRows mZoneN_z (fun i x hx => (.cons retSc (.cons (.own (owns_at (by rw [List.length_map]; exact (List.getElem?_eq_some_iff.1 hx).1))) .nil)))) id .nil) (fun x => allSc_map recV_sc) mZoneG_z (.own rfl) (fun q E h => by cases List.mem_singleton.1 h; repeat (first | exact rfl | exact famNo rfl rfl | refine lkNo rfl ?_)) (fun i => by repeat (first | exact rfl | exact famNo rfl rfl | refine lkNo rfl ?_)) rfl rfl rfl ?_
  refine s_fieldAddr rfl rfl fd34_0 rfl rfl rfl rfl ?_
  refine s_store (rows' := [[.ref (6, 0) 0 x1.length, .nils]]) rfl rfl rfl rfl ty31 rfl rfl rfl rfl rfl rfl ?_
  refine rt_nil ?_
  refine tri_seq ?_
  refine tri_region ?_
  refine s_fieldAddr rfl rfl fd52_1 rfl rfl rfl rfl ?_
  refine s_load rfl rfl rfl rfl ty50 rfl (.inr rfl) (by conv => lhs; whnf) rfl rfl rfl ?_
  refine bnd1_elim h fun x3 q4 h => ?_
  refine s_callN (kb := []) (ns := []) (v := .ref (10, 0) 0 x3.length) rfl rfl cl71 (ww_toPostS p0.posts x3 q4) rfl (.cons (.free rfl) .nil) trivial memNil .nil memNil rfl ⟨(allSc_map mPostV_sc), trivial⟩ memNil (hab1 (by repeat (first | exact rfl | exact famNo rfl rfl | refine lkNo rfl ?_))) (by first | (simp only [V.mat, V.mat1, V.mat0, matL, matT, List.length_map]; done) | (simp only [V.mat, V.mat1, V.mat0, matL, matT, List.length_map]; rfl)) rfl rfl rfl rfl ?_
  refine s_fieldAddr rfl rfl fd34_1 rfl rfl rfl rfl ?_
  refine s_store (rows' := [[.ref (6, 0) 0 x1.length, .ref (10, 0) 0 x3.length]]) rfl rfl rfl rfl ty32 rfl rfl rfl rfl rfl rfl ?_
  refine rt_nil ?_
  refine tri_seq ?_
  refine tri_region ?_
  refine s_loadR rfl rfl rfl rfl ty34 rfl rfl rfl ?_
  refine s_storeB rfl rfl rfl ty34 rfl rfl rfl rfl rfl ?_
  refine rt_nil ?_
  refine tri_ret ?_
  have e0 := (some1 h); subst e0
  exact nest_end (a := 6) (b := 10000) (l := x1) (g := mZoneG) [((2000, 0), ⟨83, 2, nr 2000 mZoneN 10000 x1, false, true⟩, some (6, 0)), ((2000, 1), ⟨133, 2, List.map mPostV x3, false, true⟩, some (10, 0))] [(0, ⟨83, 2, nr 2000 mZoneN 10000 x1, false, true⟩), (1, ⟨133, 2, List.map mPostV x3, false, true⟩)] (rvC (resCell rfl rfl ty34) rvN) ⟨⟨rfl, _, rfl, rfl, rfl, rfl, id, rowsCv_fam (fun x h => mZoneN_cv x h), nr_rowsZ mZoneN_z⟩, ⟨rfl, _, rfl, rfl, rfl, rfl, id, rowsCv_eq rfl (allFree_map mPostV_free), rowsZ_map mPostV_len⟩, trivial⟩ rfl rfl (fun _ => rfl) rfl (fun j y hy => by repeat (first | exact fam_lk (by rw [List.getElem?_map, hy]; rfl) | refine lkTo rfl ?_)) mZoneG_f mZoneG_z (fun j => by repeat (first | exact rfl | exact famNo rfl rfl | refine lkNo rfl ?_)) rfl (CvL.agg (.cons (.ref rfl) (.cons (.ref rfl) .nil)))

/- laws.toQuest -/

set_option maxRecDepth 4000 in
set_option maxHeartbeats 800000 in
theorem ww_toQuest (p0 : Quest) (r0 : Quest) (h : w_toQuest p0 = some r0) : Runs Tryz.prog 72 [.agg (questV p0)] [] (.agg (questV r0)) [] := by
  unfold w_toQuest at h
  refine runsR [.cell 2 36] Tryz.func72 rfl rfl rfl rfl ?_
  rw [Tryz.ntmps72]
  refine tri_seq ?_
  refine tri_region ?_
  refine s_box rfl rfl rfl rfl rfl rfl rfl ?_
  refine s_alloc rfl rfl rfl zc36 rfl rfl rfl rfl rfl ?_
  refine rt_nil ?_
  refine tri_seq ?_
  refine tri_region ?_
  refine s_alloc rfl rfl rfl zc36 rfl rfl rfl rfl rfl ?_
  refine rt_nil ?_
  refine tri_seq ?_
  refine tri_region ?_
  refine s_fieldAddr rfl rfl fd53_0 rfl rfl rfl rfl ?_
  refine s_load rfl rfl rfl rfl ty9 rfl (.inr rfl) (by conv => lhs; whnf) rfl rfl rfl ?_
  refine s_fieldAddr rfl rfl fd36_0 rfl rfl rfl rfl ?_
  refine s_store (rows' := [[.sc (.string p0.name), .sc (.int .i64 0)]]) rfl rfl rfl rfl ty9 rfl rfl rfl rfl rfl rfl ?_
  refine rt_nil ?_
  refine tri_seq ?_
  refine tri_region ?_
  refine s_fieldAddr rfl rfl fd53_1 rfl rfl rfl rfl ?_
  refine s_load rfl rfl rfl rfl ty3 rfl (.inr rfl) (by conv => lhs; whnf) rfl rfl rfl ?_
  refine s_fieldAddr rfl rfl fd36_1 rfl rfl rfl rfl ?_
  refine s_store (rows' := [[.sc (.string p0.name), .sc (.int .i64 p0.ty)]]) rfl rfl rfl rfl ty3 rfl rfl rfl rfl rfl rfl ?_
  refine rt_nil ?_
  refine tri_seq ?_
  refine tri_region ?_
  refine s_loadR rfl rfl rfl rfl ty36 rfl rfl rfl ?_
  refine s_storeB rfl rfl rfl ty36 rfl rfl rfl rfl rfl ?_
  refine rt_nil ?_
  refine tri_ret ?_
  have e0 := (some1 h); subst e0
  exact endY [] [] (rvC (resCell rfl rfl ty36) rvN) trivial trivial rfl rfl rfl rfl (cvAgg rfl)

/- laws.toMsg -/

set_option maxRecDepth 4000 in
set_option maxHeartbeats 800000 in
theorem ww_toMsg (p0 : MMsg) (r0 : MMsg) (h : w_toMsg p0 = some r0) : Runs Tryz.prog 29 [.agg (mMsgV p0)] [] (.agg [.sc (.int .i64 r0.id), .sc (.bool r0.reply), .sc (.bool r0.auth), .sc (.bool r0.cut), .sc (.bool r0.want), .sc (.bool r0.can), .sc (.int .i64 r0.code), .sc (.string r0.q.name), .sc (.int .i64 r0.q.ty), .own 48 6 (List.map recV r0.an), .own 48 6 (List.map recV r0.au), .own 48 6 (List.map recV r0.ad)]) [] := by
  unfold w_toMsg at h
  refine runsR [.cell 2 60] Tryz.func29 rfl rfl rfl rfl ?_
  rw [Tryz.ntmps29]
  refine tri_seq ?_
  refine tri_region ?_
  refine s_box rfl rfl rfl rfl rfl rfl rfl ?_
  refine s_alloc rfl rfl rfl zc60 rfl rfl rfl rfl rfl ?_
  refine rt_nil ?_
  refine tri_seq ?_
  refine tri_region ?_
  refine s_alloc rfl rfl rfl zc60 rfl rfl rfl rfl rfl ?_
  refine rt_nil ?_
  refine tri_seq ?_
  refine tri_region ?_
  refine s_fieldAddr rfl rfl fd56_0 rfl rfl rfl rfl ?_
  refine s_load rfl rfl rfl rfl ty3 rfl (.inr rfl) (by conv => lhs; whnf) rfl rfl rfl ?_
  refine s_fieldAddr rfl rfl fd60_0 rfl rfl rfl rfl ?_
  refine s_store (rows' := [[.sc (.int .i64 p0.id), .sc (.bool false), .sc (.bool false), .sc (.bool false), .sc (.bool false), .sc (.bool false), .sc (.int .i64 0), .sc (.string (⟨#[]⟩ : ByteArray)), .sc (.int .i64 0), .nils, .nils, .nils]]) rfl rfl rfl rfl ty3 rfl rfl rfl rfl rfl rfl ?_
  refine rt_nil ?_
  refine tri_seq ?_
  refine tri_region ?_
  refine s_fieldAddr rfl rfl fd56_1 rfl rfl rfl rfl ?_
  refine s_load rfl rfl rfl rfl ty4 rfl (.inr rfl) (by conv => lhs; whnf) rfl rfl rfl ?_
  refine s_fieldAddr rfl rfl fd60_1 rfl rfl rfl rfl ?_
  refine s_store (rows' := [[.sc (.int .i64 p0.id), .sc (.bool p0.reply), .sc (.bool false), .sc (.bool false), .sc (.bool false), .sc (.bool false), .sc (.int .i64 0), .sc (.string (⟨#[]⟩ : ByteArray)), .sc (.int .i64 0), .nils, .nils, .nils]]) rfl rfl rfl rfl ty4 rfl rfl rfl rfl rfl rfl ?_
  refine rt_nil ?_
  refine tri_seq ?_
  refine tri_region ?_
  refine s_fieldAddr rfl rfl fd56_2 rfl rfl rfl rfl ?_
  refine s_load rfl rfl rfl rfl ty4 rfl (.inr rfl) (by conv => lhs; whnf) rfl rfl rfl ?_
  refine s_fieldAddr rfl rfl fd60_2 rfl rfl rfl rfl ?_
  refine s_store (rows' := [[.sc (.int .i64 p0.id), .sc (.bool p0.reply), .sc (.bool p0.auth), .sc (.bool false), .sc (.bool false), .sc (.bool false), .sc (.int .i64 0), .sc (.string (⟨#[]⟩ : ByteArray)), .sc (.int .i64 0), .nils, .nils, .nils]]) rfl rfl rfl rfl ty4 rfl rfl rfl rfl rfl rfl ?_
  refine rt_nil ?_
  refine tri_seq ?_
  refine tri_region ?_
  refine s_fieldAddr rfl rfl fd56_3 rfl rfl rfl rfl ?_
  refine s_load rfl rfl rfl rfl ty4 rfl (.inr rfl) (by conv => lhs; whnf) rfl rfl rfl ?_
  refine s_fieldAddr rfl rfl fd60_3 rfl rfl rfl rfl ?_
  refine s_store (rows' := [[.sc (.int .i64 p0.id), .sc (.bool p0.reply), .sc (.bool p0.auth), .sc (.bool p0.cut), .sc (.bool false), .sc (.bool false), .sc (.int .i64 0), .sc (.string (⟨#[]⟩ : ByteArray)), .sc (.int .i64 0), .nils, .nils, .nils]]) rfl rfl rfl rfl ty4 rfl rfl rfl rfl rfl rfl ?_
  refine rt_nil ?_
  refine tri_seq ?_
  refine tri_region ?_
  refine s_fieldAddr rfl rfl fd56_4 rfl rfl rfl rfl ?_
  refine s_load rfl rfl rfl rfl ty4 rfl (.inr rfl) (by conv => lhs; whnf) rfl rfl rfl ?_
  refine s_fieldAddr rfl rfl fd60_4 rfl rfl rfl rfl ?_
  refine s_store (rows' := [[.sc (.int .i64 p0.id), .sc (.bool p0.reply), .sc (.bool p0.auth), .sc (.bool p0.cut), .sc (.bool p0.want), .sc (.bool false), .sc (.int .i64 0), .sc (.string (⟨#[]⟩ : ByteArray)), .sc (.int .i64 0), .nils, .nils, .nils]]) rfl rfl rfl rfl ty4 rfl rfl rfl rfl rfl rfl ?_
  refine rt_nil ?_
  refine tri_seq ?_
  refine tri_region ?_
  refine s_fieldAddr rfl rfl fd56_5 rfl rfl rfl rfl ?_
  refine s_load rfl rfl rfl rfl ty4 rfl (.inr rfl) (by conv => lhs; whnf) rfl rfl rfl ?_
  refine s_fieldAddr rfl rfl fd60_5 rfl rfl rfl rfl ?_
  refine s_store (rows' := [[.sc (.int .i64 p0.id), .sc (.bool p0.reply), .sc (.bool p0.auth), .sc (.bool p0.cut), .sc (.bool p0.want), .sc (.bool p0.can), .sc (.int .i64 0), .sc (.string (⟨#[]⟩ : ByteArray)), .sc (.int .i64 0), .nils, .nils, .nils]]) rfl rfl rfl rfl ty4 rfl rfl rfl rfl rfl rfl ?_
  refine rt_nil ?_
  refine tri_seq ?_
  refine tri_region ?_
  refine s_fieldAddr rfl rfl fd56_6 rfl rfl rfl rfl ?_
  refine s_load rfl rfl rfl rfl ty3 rfl (.inr rfl) (by conv => lhs; whnf) rfl rfl rfl ?_
  refine s_fieldAddr rfl rfl fd60_6 rfl rfl rfl rfl ?_
  refine s_store (rows' := [[.sc (.int .i64 p0.id), .sc (.bool p0.reply), .sc (.bool p0.auth), .sc (.bool p0.cut), .sc (.bool p0.want), .sc (.bool p0.can), .sc (.int .i64 p0.code), .sc (.string (⟨#[]⟩ : ByteArray)), .sc (.int .i64 0), .nils, .nils, .nils]]) rfl rfl rfl rfl ty3 rfl rfl rfl rfl rfl rfl ?_
  refine rt_nil ?_
  refine tri_seq ?_
  refine tri_region ?_
  refine s_fieldAddr rfl rfl fd56_7 rfl rfl rfl rfl ?_
  refine s_load (v := .agg (questV p0.q)) rfl rfl rfl rfl ty53 rfl (.inl rfl) rfl rfl rfl rfl ?_
  refine bnd1_elim h fun x1 q2 h => ?_
  refine s_callN (kb := []) (ns := []) (v := .agg (questV x1)) rfl rfl cl72 (ww_toQuest p0.q x1 q2) rfl (.cons (relAgg rfl) .nil) trivial memNil .nil memNil rfl trivial memNil rfl rfl rfl rfl rfl rfl ?_
  refine s_fieldAddr rfl rfl fd60_7 rfl rfl rfl rfl ?_
  refine s_store (rows' := [[.sc (.int .i64 p0.id), .sc (.bool p0.reply), .sc (.bool p0.auth), .sc (.bool p0.cut), .sc (.bool p0.want), .sc (.bool p0.can), .sc (.int .i64 p0.code), .sc (.string x1.name), .sc (.int .i64 x1.ty), .nils, .nils, .nils]]) rfl rfl rfl rfl ty36 rfl rfl rfl rfl rfl rfl ?_
  refine rt_nil ?_
  refine tri_seq ?_
  refine tri_region ?_
  refine s_fieldAddr rfl rfl fd56_8 rfl rfl rfl rfl ?_
  refine s_load rfl rfl rfl rfl ty54 rfl (.inr rfl) (by conv => lhs; whnf) rfl rfl rfl ?_
  refine bnd1_elim h fun x3 q4 h => ?_
  refine s_callN (kb := []) (ns := []) (v := .ref (31, 0) 0 x3.length) rfl rfl cl73 (ww_toRecordS p0.an x3 q4) rfl (.cons (.free rfl) .nil) trivial memNil .nil memNil rfl ⟨(allSc_map recV_sc), trivial⟩ memNil rfl (by first | (simp only [V.mat, V.mat1, V.mat0, matL, matT, List.length_map]; done) | (simp only [V.mat, V.mat1, V.mat0, matL, matT, List.length_map]; rfl)) rfl rfl rfl rfl ?_
  refine s_fieldAddr rfl rfl fd60_8 rfl rfl rfl rfl ?_
  refine s_store (rows' := [[.sc (.int .i64 p0.id), .sc (.bool p0.reply), .sc (.bool p0.auth), .sc (.bool p0.cut), .sc (.bool p0.want), .sc (.bool p0.can), .sc (.int .i64 p0.code), .sc (.string x1.name), .sc (.int .i64 x1.ty), .ref (31, 0) 0 x3.length, .nils, .nils]]) rfl rfl rfl rfl ty24 rfl rfl rfl rfl rfl rfl ?_
  refine rt_nil ?_
  refine tri_seq ?_
  refine tri_region ?_
  refine s_fieldAddr rfl rfl fd56_9 rfl rfl rfl rfl ?_
  refine s_load rfl rfl rfl rfl ty54 rfl (.inr rfl) (by conv => lhs; whnf) rfl rfl rfl ?_
  refine bnd1_elim h fun x5 q6 h => ?_
  refine s_callN (kb := []) (ns := []) (v := .ref (35, 0) 0 x5.length) rfl rfl cl73 (ww_toRecordS p0.au x5 q6) rfl (.cons (.free rfl) .nil) trivial memNil .nil memNil rfl ⟨(allSc_map recV_sc), trivial⟩ memNil rfl (by first | (simp only [V.mat, V.mat1, V.mat0, matL, matT, List.length_map]; done) | (simp only [V.mat, V.mat1, V.mat0, matL, matT, List.length_map]; rfl)) rfl rfl rfl rfl ?_
  refine s_fieldAddr rfl rfl fd60_9 rfl rfl rfl rfl ?_
  refine s_store (rows' := [[.sc (.int .i64 p0.id), .sc (.bool p0.reply), .sc (.bool p0.auth), .sc (.bool p0.cut), .sc (.bool p0.want), .sc (.bool p0.can), .sc (.int .i64 p0.code), .sc (.string x1.name), .sc (.int .i64 x1.ty), .ref (31, 0) 0 x3.length, .ref (35, 0) 0 x5.length, .nils]]) rfl rfl rfl rfl ty24 rfl rfl rfl rfl rfl rfl ?_
  refine rt_nil ?_
  refine tri_seq ?_
  refine tri_region ?_
  refine s_fieldAddr rfl rfl fd56_10 rfl rfl rfl rfl ?_
  refine s_load rfl rfl rfl rfl ty54 rfl (.inr rfl) (by conv => lhs; whnf) rfl rfl rfl ?_
  refine bnd1_elim h fun x7 q8 h => ?_
  refine s_callN (kb := []) (ns := []) (v := .ref (39, 0) 0 x7.length) rfl rfl cl73 (ww_toRecordS p0.ad x7 q8) rfl (.cons (.free rfl) .nil) trivial memNil .nil memNil rfl ⟨(allSc_map recV_sc), trivial⟩ memNil rfl (by first | (simp only [V.mat, V.mat1, V.mat0, matL, matT, List.length_map]; done) | (simp only [V.mat, V.mat1, V.mat0, matL, matT, List.length_map]; rfl)) rfl rfl rfl rfl ?_
  refine s_fieldAddr rfl rfl fd60_10 rfl rfl rfl rfl ?_
  refine s_store (rows' := [[.sc (.int .i64 p0.id), .sc (.bool p0.reply), .sc (.bool p0.auth), .sc (.bool p0.cut), .sc (.bool p0.want), .sc (.bool p0.can), .sc (.int .i64 p0.code), .sc (.string x1.name), .sc (.int .i64 x1.ty), .ref (31, 0) 0 x3.length, .ref (35, 0) 0 x5.length, .ref (39, 0) 0 x7.length]]) rfl rfl rfl rfl ty24 rfl rfl rfl rfl rfl rfl ?_
  refine rt_nil ?_
  refine tri_seq ?_
  refine tri_region ?_
  refine s_loadR rfl rfl rfl rfl ty60 rfl rfl rfl ?_
  refine s_storeB rfl rfl rfl ty60 rfl rfl rfl rfl rfl ?_
  refine rt_nil ?_
  refine tri_ret ?_
  have e0 := (some1 h); subst e0
  exact endY (v' := .agg [.sc (.int .i64 p0.id), .sc (.bool p0.reply), .sc (.bool p0.auth), .sc (.bool p0.cut), .sc (.bool p0.want), .sc (.bool p0.can), .sc (.int .i64 p0.code), .sc (.string x1.name), .sc (.int .i64 x1.ty), .ref (2000, 9) 0 x3.length, .ref (2000, 10) 0 x5.length, .ref (2000, 11) 0 x7.length]) [((2000, 9), ⟨48, 6, List.map recV x3, false, true⟩, some (31, 0)), ((2000, 10), ⟨48, 6, List.map recV x5, false, true⟩, some (35, 0)), ((2000, 11), ⟨48, 6, List.map recV x7, false, true⟩, some (39, 0))] [] (rvC (resCell rfl rfl ty60) rvN) ⟨⟨rfl, _, rfl, rfl, rfl, rfl, id, rowsCv_eq rfl (allFree_map recV_free), rowsZ_map recV_len⟩, ⟨rfl, _, rfl, rfl, rfl, rfl, id, rowsCv_eq rfl (allFree_map recV_free), rowsZ_map recV_len⟩, ⟨rfl, _, rfl, rfl, rfl, rfl, id, rowsCv_eq rfl (allFree_map recV_free), rowsZ_map recV_len⟩, trivial⟩ trivial rfl rfl (by kernel_rfl) (by first | (simp only [V.mat, V.mat1, V.mat0, matL, matT, List.length_map]; done) | (simp only [V.mat, V.mat1, V.mat0, matL, matT, List.length_map]; rfl)) (CvL.agg (.cons (.free rfl) (.cons (.free rfl) (.cons (.free rfl) (.cons (.free rfl) (.cons (.free rfl) (.cons (.free rfl) (.cons (.free rfl) (.cons (.free rfl) (.cons (.free rfl) (.cons (.ref rfl) (.cons (.ref rfl) (.cons (.ref rfl) .nil)))))))))))))

/- spec.l12Posted -/
def inv_s_l12Posted_1 (p0 : MForest) (p1 : Int) (p2 : ByteArray) (v0_0 : Nat) (j1_0 : Bool) : St := mkT 33 [(1, .sc (.int .i64 p1)), (2, .sc (.string p2)), (3, .ptr (3, 0) 0 0), (7, .sc (.int .i64 (v0_0 : Int))), (32, .sc (.bool j1_0))] [((3, 0), some ⟨34, 2, [[.lst 2 (List.map mZoneV p0.zones), .lst 2 (List.map mPostV p0.posts)]], false, true⟩)]
def inv_s_l12Posted_0 (p0 : MForest) (p1 : Int) (p2 : ByteArray) (v0_0 : Nat) : St := mkT 33 [(1, .sc (.int .i64 p1)), (2, .sc (.string p2)), (3, .ptr (3, 0) 0 0), (7, .sc (.int .i64 (v0_0 : Int)))] [((3, 0), some ⟨34, 2, [[.lst 2 (List.map mZoneV p0.zones), .lst 2 (List.map mPostV p0.posts)]], false, true⟩)]
set_option maxRecDepth 4000 in
set_option maxHeartbeats 800000 in
theorem ws_l12Posted (p0 : MForest) (p1 : Int) (p2 : ByteArray) (r0 : Bool) (h : s_l12Posted p0 p1 p2 = some r0) : Runs Tryz.prog 121 [.agg (mForestV p0), .sc (.int .i64 p1), .sc (.string p2)] [] (.sc (.bool r0)) [] := by
  unfold s_l12Posted at h
  refine runsR [.tmp 6] Tryz.func121 rfl rfl rfl rfl ?_
  rw [Tryz.ntmps121]
  refine tri_seq ?_
  refine tri_region ?_
  refine s_box rfl rfl rfl rfl rfl rfl rfl ?_
  refine s_mv (.inr rfl) (v := .sc (.bool false)) rfl rfl rfl rfl ?_
  refine rt_nil ?_
  refine tri_seq ?_
  refine tri_seq ?_
  refine tri_region ?_
  refine s_mv (.inr rfl) (v := .sc (.int .i64 0)) rfl rfl rfl rfl ?_
  refine rt_nil ?_
  refine tri_block ?_
  refine tri_aggM 0 1 rfl rfl (fun hl0 => ?_)
  refine tri_loop (ι := { p : (List MPost) × Nat // p0.posts.drop p.2 = p.1 ∧ s_l12Posted_l0 p1 p2 p.1 p.2 = some r0 }) (fun p => inv_s_l12Posted_0 p0 p1 p2 p.1.2) (fun p => p.1.1.length) ⟨(p0.posts, 0), rfl, h⟩ ?_ ?_
  · skip
    refine entX [((3, 0), ⟨34, 2, [[.lst 2 (List.map mZoneV p0.zones), .lst 2 (List.map mPostV p0.posts)]], false, true⟩, some (3, 0))] [] ⟨⟨rfl, _, rfl, rfl, rfl, rfl, id, rowsCv_one (.cons (.free rfl) (.cons (.free rfl) .nil)), rowsZ_one rfl⟩, trivial⟩ trivial rfl rfl ?_
    exact ⟨(.free rfl), (.free rfl), (.ptr rfl), (.free rfl), trivial⟩
  · rintro ⟨⟨lrs0, v0_0⟩, hd0, h⟩
    replace hd0 : p0.posts.drop v0_0 = lrs0 := hd0
    replace h : s_l12Posted_l0 p1 p2 lrs0 v0_0 = some r0 := h
    show Tri _ _ _ (inv_s_l12Posted_0 p0 p1 p2 v0_0)
    refine tri_seq ?_
    refine tri_seq ?_
    refine tri_region ?_
    refine s_mv (.inl rfl) (by conv => lhs; whnf) rfl rfl rfl ?_
    refine s_fieldAddr rfl rfl fd34_1 rfl rfl rfl rfl ?_
    refine s_load rfl rfl rfl rfl ty32 rfl (.inr rfl) (by conv => lhs; whnf) rfl rfl rfl ?_
    refine s_lenL rfl sl32 rfl rfl rfl rfl ?_
    refine s_of (st_lss rfl rfl rfl) rfl rfl rfl rfl ?_
    refine rt_nil ?_
    refine tri_cond rfl (fun c1 => ?_) (fun c1 => ?_)
    · refine drop_elim hd0 c1 fun e0 rs0 he hx0 hn0 => ?_
      subst he
      rw [s_l12Posted_l0] at h
      refine tri_skip ?_
      refine tri_seq ?_
      refine tri_block ?_
      refine tri_cutI (ι := { p : Bool // s_l12Posted_j1 v0_0 (s_l12Posted_l0 p1 p2 rs0) p = some r0 }) (fun p => inv_s_l12Posted_1 p0 p1 p2 v0_0 p.1) ?_ ?_
      · skip
        refine tri_region ?_
        refine s_fieldAddr rfl rfl fd34_1 rfl rfl rfl rfl ?_
        refine s_load rfl rfl rfl rfl ty32 rfl (.inr rfl) (by conv => lhs; whnf) rfl rfl rfl ?_
        refine s_mv (.inl rfl) (by conv => lhs; whnf) rfl rfl rfl ?_
        refine s_indexF (i := v0_0) rfl rfl rfl sl32 (get_ltM hx0) rfl rfl rfl ?_
        refine s_fieldAddrF rfl rfl fd133_0 rfl rfl rfl rfl ?_
        refine s_loadF rfl rfl (rowG hx0) ty3 rfl (.inr rfl) (by conv => lhs; whnf) rfl rfl rfl ?_
        refine s_mv (.inl rfl) (by conv => lhs; whnf) rfl rfl rfl ?_
        refine s_of (st_eqI rfl rfl rfl) rfl rfl rfl rfl ?_
        refine s_mv (.inl rfl) (by conv => lhs; whnf) rfl rfl rfl ?_
        refine s_split (t := 23) rfl (fun b2 => ?_) (fun b2 => ?_)
        · replace h := cond_t h b2
          refine s_fieldAddr rfl rfl fd34_1 rfl rfl rfl rfl ?_
          refine s_load rfl rfl rfl rfl ty32 rfl (.inr rfl) (by conv => lhs; whnf) rfl rfl rfl ?_
          refine s_mv (.inl rfl) (by conv => lhs; whnf) rfl rfl rfl ?_
          refine s_indexF (i := v0_0) rfl rfl rfl sl32 (get_ltM hx0) rfl rfl rfl ?_
          refine s_fieldAddrF rfl rfl fd133_1 rfl rfl rfl rfl ?_
          refine s_loadF rfl rfl (rowG hx0) ty9 rfl (.inr rfl) (by conv => lhs; whnf) rfl rfl rfl ?_
          refine s_mv (.inl rfl) (by conv => lhs; whnf) rfl rfl rfl ?_
          refine s_of (st_eqS rfl rfl rfl) rfl rfl rfl rfl ?_
          refine s_pickT rfl rfl (by conv => lhs; whnf) rfl rfl rfl ?_
          refine rt_nil ?_
          refine Exists.intro ⟨decide (e0.apex = p2), h⟩ ?_
          refine entX [((3, 0), ⟨34, 2, [[.lst 2 (List.map mZoneV p0.zones), .lst 2 (List.map mPostV p0.posts)]], false, true⟩, some (3, 0))] [] ⟨⟨rfl, _, rfl, rfl, rfl, rfl, id, rowsCv_one (.cons (.free rfl) (.cons (.free rfl) .nil)), rowsZ_one rfl⟩, trivial⟩ trivial rfl rfl ?_
          exact ⟨(.free rfl), (.free rfl), (.ptr rfl), (.free rfl), (.free rfl), trivial⟩
        · replace h := cond_f h b2
          refine s_skip rfl rfl rfl ?_
          refine s_skip rfl rfl rfl ?_
          refine s_skip rfl rfl rfl ?_
          refine s_skip rfl rfl rfl ?_
          refine s_skip rfl rfl rfl ?_
          refine s_skip rfl rfl rfl ?_
          refine s_skip rfl rfl rfl ?_
          refine s_skip rfl rfl rfl ?_
          refine s_pickF rfl rfl (v := .sc (.bool false)) rfl rfl rfl rfl ?_
          refine rt_nil ?_
          refine Exists.intro ⟨false, h⟩ ?_
          refine entX [((3, 0), ⟨34, 2, [[.lst 2 (List.map mZoneV p0.zones), .lst 2 (List.map mPostV p0.posts)]], false, true⟩, some (3, 0))] [] ⟨⟨rfl, _, rfl, rfl, rfl, rfl, id, rowsCv_one (.cons (.free rfl) (.cons (.free rfl) .nil)), rowsZ_one rfl⟩, trivial⟩ trivial rfl rfl ?_
          exact ⟨(.free rfl), (.free rfl), (.ptr rfl), (.free rfl), (.free rfl), trivial⟩
      · rintro ⟨j1_0, h⟩
        replace h : s_l12Posted_j1 v0_0 (s_l12Posted_l0 p1 p2 rs0) j1_0 = some r0 := h
        unfold s_l12Posted_j1 at h
        show Tri _ _ _ (inv_s_l12Posted_1 p0 p1 p2 v0_0 j1_0)
        refine tri_cond rfl (fun c2 => ?_) (fun c2 => ?_)
        · replace h := cond_t h c2
          refine tri_seq ?_
          refine tri_region ?_
          refine s_mv (.inr rfl) (v := .sc (.bool true)) rfl rfl rfl rfl ?_
          refine rt_nil ?_
          refine tri_ret ?_
          have e0 := (some1 h); subst e0
          exact endY [] [] (rvC (resTmp rfl) rvN) trivial trivial rfl rfl rfl rfl (.free rfl)
        · replace h := cond_f h c2
          refine tri_skip ?_
          refine tri_region ?_
          refine s_mv (.inl rfl) (by conv => lhs; whnf) rfl rfl rfl ?_
          refine s_inc (a := v0_0) (b := 1) rfl rfl rfl rfl (by have := get_lt hx0; have := hl0; omega) rfl rfl rfl ?_
          refine s_mv (.inr rfl) (by conv => lhs; whnf) rfl rfl rfl ?_
          refine rt_nil ?_
          refine Exists.intro ⟨(rs0, (v0_0 + 1)), hn0, h⟩ (And.intro (Nat.lt_succ_self _) ?_)
          refine entX [((3, 0), ⟨34, 2, [[.lst 2 (List.map mZoneV p0.zones), .lst 2 (List.map mPostV p0.posts)]], false, true⟩, some (3, 0))] [] ⟨⟨rfl, _, rfl, rfl, rfl, rfl, id, rowsCv_one (.cons (.free rfl) (.cons (.free rfl) .nil)), rowsZ_one rfl⟩, trivial⟩ trivial rfl rfl ?_
          exact ⟨(.free rfl), (.free rfl), (.ptr rfl), (.free rfl), trivial⟩
    · have he := drop_f hd0 c1; subst he
      rw [s_l12Posted_l0] at h
      refine tri_exit ?_
      refine tri_seq ?_
      refine tri_region ?_
      refine s_mv (.inr rfl) (v := .sc (.bool false)) rfl rfl rfl rfl ?_
      refine rt_nil ?_
      refine tri_ret ?_
      have e0 := (some1 h); subst e0
      exact endY [] [] (rvC (resTmp rfl) rvN) trivial trivial rfl rfl rfl rfl (.free rfl)

/- spec.Labels -/
def inv_s_Labels_2 (p0 : ByteArray) (v0_0 : List ByteArray) (v0_1 : Int) (v0_2 : Int) (j2_0 : Bool) : St := mkT 37 [(0, .sc (.string p0)), (3, .ref (2003, 0) 0 v0_0.length), (4, .sc (.int .i64 v0_1)), (5, .sc (.int .i64 v0_2)), (26, .sc (.bool j2_0))] [((2003, 0), some ⟨9, 1, List.map strV v0_0, false, true⟩)]
def inv_s_Labels_1 (p0 : ByteArray) (v0_0 : List ByteArray) (v0_1 : Int) (v0_2 : Int) (j1_0 : Bool) : St := mkT 37 [(0, .sc (.string p0)), (3, .ref (2003, 0) 0 v0_0.length), (4, .sc (.int .i64 v0_1)), (5, .sc (.int .i64 v0_2)), (14, .sc (.bool j1_0))] [((2003, 0), some ⟨9, 1, List.map strV v0_0, false, true⟩)]
def inv_s_Labels_0 (p0 : ByteArray) (v0_0 : List ByteArray) (v0_1 : Int) (v0_2 : Int) : St := mkT 37 [(0, .sc (.string p0)), (3, .ref (2003, 0) 0 v0_0.length), (4, .sc (.int .i64 v0_1)), (5, .sc (.int .i64 v0_2))] [((2003, 0), some ⟨9, 1, List.map strV v0_0, false, true⟩)]
set_option maxRecDepth 4000 in
set_option maxHeartbeats 800000 in
theorem ws_Labels (p0 : ByteArray) (r0 : List ByteArray) (h : s_Labels p0 = some r0) : Runs Tryz.prog 144 [.sc (.string p0)] [] (.own 9 1 (List.map strV r0)) [] := by
  unfold s_Labels at h
  refine runsR [.tmp 2] Tryz.func144 rfl rfl rfl rfl ?_
  rw [Tryz.ntmps144]
  refine tri_seq ?_
  refine tri_region ?_
  refine s_mv (.inr rfl) (v := .nils) rfl rfl rfl rfl ?_
  refine rt_nil ?_
  refine tri_seq ?_
  refine tri_region ?_
  refine s_buildSlice (rows' := List.map strV ([] : List ByteArray)) rfl rfl rfl sl112 zc9 rfl rfl rfl rfl rfl rfl rfl rfl rfl ?_
  refine s_mv (.inr rfl) (by conv => lhs; whnf) rfl rfl rfl ?_
  refine rt_nil ?_
  refine tri_seq ?_
  refine tri_region ?_
  refine s_mv (.inr rfl) (v := .sc (.int .i64 0)) rfl rfl rfl rfl ?_
  refine rt_nil ?_
  refine tri_seq ?_
  refine tri_seq ?_
  refine tri_region ?_
  refine s_mv (.inr rfl) (v := .sc (.int .i64 0)) rfl rfl rfl rfl ?_
  refine rt_nil ?_
  refine tri_block ?_
  refine tri_loop (ι := { p : Nat × (List ByteArray) × Int × Int // s_Labels_l0 p0 p.1 p.2.1 p.2.2.1 p.2.2.2 = some r0 }) (fun p => inv_s_Labels_0 p0 p.1.2.1 p.1.2.2.1 p.1.2.2.2) (fun p => p.1.1) ⟨(fuel0, ([] : List ByteArray), 0, 0), h⟩ ?_ ?_
  · skip
    refine entX [((2003, 0), ⟨9, 1, List.map strV ([] : List ByteArray), false, true⟩, some (6, 0))] [] ⟨⟨rfl, _, rfl, rfl, rfl, rfl, id, rowsCv_eq rfl (allFree_map strV_free), rowsZ_map strV_len⟩, trivial⟩ trivial rfl rfl ?_
    exact ⟨(.free rfl), (.ref rfl), (.free rfl), (.free rfl), trivial⟩
  · rintro ⟨⟨f0, v0_0, v0_1, v0_2⟩, h⟩
    replace h : s_Labels_l0 p0 f0 v0_0 v0_1 v0_2 = some r0 := h
    cases f0 with
    | zero => cases h
    | succ f0 =>
    rw [s_Labels_l0] at h
    show Tri _ _ _ (inv_s_Labels_0 p0 v0_0 v0_1 v0_2)
    refine tri_seq ?_
    refine tri_cutI (ι := { p : Bool // s_Labels_j1 p0 v0_0 v0_1 v0_2 (s_Labels_l0 p0 f0) p = some r0 }) (fun p => inv_s_Labels_1 p0 v0_0 v0_1 v0_2 p.1) ?_ ?_
    · skip
      refine tri_region ?_
      refine s_mv (.inl rfl) (by conv => lhs; whnf) rfl rfl rfl ?_
      refine s_mv (.inl rfl) (by conv => lhs; whnf) rfl rfl rfl ?_
      refine s_of (st_lenS rfl rfl iss9) rfl rfl rfl rfl ?_
      refine s_of (st_leq rfl rfl rfl) rfl rfl rfl rfl ?_
      refine s_mv (.inl rfl) (by conv => lhs; whnf) rfl rfl rfl ?_
      refine s_split (t := 11) rfl (fun b1 => ?_) (fun b1 => ?_)
      · replace h := cond_t h b1
        refine s_mv (.inl rfl) (by conv => lhs; whnf) rfl rfl rfl ?_
        refine s_of (st_neS rfl rfl rfl) rfl rfl rfl rfl ?_
        refine s_pickT rfl rfl (by conv => lhs; whnf) rfl rfl rfl ?_
        refine rt_nil ?_
        refine Exists.intro ⟨!decide (p0 = (⟨#[]⟩ : ByteArray)), h⟩ ?_
        refine entX [((2003, 0), ⟨9, 1, List.map strV v0_0, false, true⟩, some (2003, 0))] [] ⟨⟨rfl, _, rfl, rfl, rfl, rfl, id, rowsCv_eq rfl (allFree_map strV_free), rowsZ_map strV_len⟩, trivial⟩ trivial rfl rfl ?_
        exact ⟨(.free rfl), (.ref rfl), (.free rfl), (.free rfl), (.free rfl), trivial⟩
      · replace h := cond_f h b1
        refine s_skip rfl rfl rfl ?_
        refine s_skip rfl rfl rfl ?_
        refine s_pickF rfl rfl (v := .sc (.bool false)) rfl rfl rfl rfl ?_
        refine rt_nil ?_
        refine Exists.intro ⟨false, h⟩ ?_
        refine entX [((2003, 0), ⟨9, 1, List.map strV v0_0, false, true⟩, some (2003, 0))] [] ⟨⟨rfl, _, rfl, rfl, rfl, rfl, id, rowsCv_eq rfl (allFree_map strV_free), rowsZ_map strV_len⟩, trivial⟩ trivial rfl rfl ?_
        exact ⟨(.free rfl), (.ref rfl), (.free rfl), (.free rfl), (.free rfl), trivial⟩
    · rintro ⟨j1_0, h⟩
      replace h : s_Labels_j1 p0 v0_0 v0_1 v0_2 (s_Labels_l0 p0 f0) j1_0 = some r0 := h
      unfold s_Labels_j1 at h
      show Tri _ _ _ (inv_s_Labels_1 p0 v0_0 v0_1 v0_2 j1_0)
      refine tri_cond rfl (fun c1 => ?_) (fun c1 => ?_)
      · replace h := cond_t h c1
        refine tri_skip ?_
        refine tri_seq ?_
        refine tri_block ?_
        refine tri_cutI (ι := { p : Bool // s_Labels_j2 p0 v0_0 v0_1 v0_2 (s_Labels_l0 p0 f0) p = some r0 }) (fun p => inv_s_Labels_2 p0 v0_0 v0_1 v0_2 p.1) ?_ ?_
        · skip
          refine tri_region ?_
          refine s_mv (.inl rfl) (by conv => lhs; whnf) rfl rfl rfl ?_
          refine s_mv (.inl rfl) (by conv => lhs; whnf) rfl rfl rfl ?_
          refine s_of (st_lenS rfl rfl iss9) rfl rfl rfl rfl ?_
          refine s_of (st_eqI rfl rfl rfl) rfl rfl rfl rfl ?_
          refine s_mv (.inl rfl) (by conv => lhs; whnf) rfl rfl rfl ?_
          refine s_split (t := 21) rfl (fun b2 => ?_) (fun b2 => ?_)
          · replace h := cond_t h b2
            refine s_skip rfl rfl rfl ?_
            refine s_skip rfl rfl rfl ?_
            refine s_skip rfl rfl rfl ?_
            refine s_skip rfl rfl rfl ?_
            refine s_pickT rfl rfl (v := .sc (.bool true)) rfl rfl rfl rfl ?_
            refine rt_nil ?_
            refine Exists.intro ⟨true, h⟩ ?_
            refine entX [((2003, 0), ⟨9, 1, List.map strV v0_0, false, true⟩, some (2003, 0))] [] ⟨⟨rfl, _, rfl, rfl, rfl, rfl, id, rowsCv_eq rfl (allFree_map strV_free), rowsZ_map strV_len⟩, trivial⟩ trivial rfl rfl ?_
            exact ⟨(.free rfl), (.ref rfl), (.free rfl), (.free rfl), (.free rfl), trivial⟩
          · replace h := cond_f h b2
            refine s_mv (.inl rfl) (by conv => lhs; whnf) rfl rfl rfl ?_
            refine s_mv (.inl rfl) (by conv => lhs; whnf) rfl rfl rfl ?_
            refine bnd1_elim h fun x3 q4 h => ?_
            refine s_idxS rfl rfl rfl iss9 q4 rfl rfl rfl ?_
            refine s_of (st_eqI rfl rfl rfl) rfl rfl rfl rfl ?_
            refine s_pickF rfl rfl (by conv => lhs; whnf) rfl rfl rfl ?_
            refine rt_nil ?_
            refine Exists.intro ⟨decide (x3 = 46), h⟩ ?_
            refine entX [((2003, 0), ⟨9, 1, List.map strV v0_0, false, true⟩, some (2003, 0))] [] ⟨⟨rfl, _, rfl, rfl, rfl, rfl, id, rowsCv_eq rfl (allFree_map strV_free), rowsZ_map strV_len⟩, trivial⟩ trivial rfl rfl ?_
            exact ⟨(.free rfl), (.ref rfl), (.free rfl), (.free rfl), (.free rfl), trivial⟩
        · rintro ⟨j2_0, h⟩
          replace h : s_Labels_j2 p0 v0_0 v0_1 v0_2 (s_Labels_l0 p0 f0) j2_0 = some r0 := h
          unfold s_Labels_j2 at h
          show Tri _ _ _ (inv_s_Labels_2 p0 v0_0 v0_1 v0_2 j2_0)
          refine tri_cond rfl (fun c2 => ?_) (fun c2 => ?_)
          · replace h := cond_t h c2
            refine tri_seq ?_
            refine tri_region ?_
            refine s_mv (.inl rfl) (by conv => lhs; whnf) rfl rfl rfl ?_
            refine s_mv (.inl rfl) (by conv => lhs; whnf) rfl rfl rfl ?_
            refine s_mv (.inl rfl) (by conv => lhs; whnf) rfl rfl rfl ?_
            refine s_mv (.inl rfl) (by conv => lhs; whnf) rfl rfl rfl ?_
            refine grd_elim h fun g3 h => ?_
            refine s_sliceS (a := v0_1) (b := v0_2) rfl rfl iss9 ⟨_, rfl⟩ ⟨_, rfl⟩ g3 rfl rfl rfl ?_
            refine s_buildSlice (rows' := List.map strV [p0.extract v0_1.toNat v0_2.toNat]) rfl rfl rfl sl112 zc9 rfl rfl rfl rfl rfl rfl rfl rfl rfl ?_
            refine grd_elim h fun g4 h => ?_
            refine s_appL rfl rfl rfl sl112 zc9 rfl rfl rfl rfl rfl rfl (src_refL rfl rfl) g4 rfl rfl ?_
            refine s_mv (.inr rfl) (by conv => lhs; whnf) rfl rfl rfl ?_
            refine rt_nil ?_
            refine tri_region ?_
            refine s_mv (.inl rfl) (by conv => lhs; whnf) rfl rfl rfl ?_
            refine grd_elim h fun g5 h => ?_
            refine s_addI rfl rfl rfl rfl g5 rfl rfl rfl ?_
            refine s_mv (.inr rfl) (by conv => lhs; whnf) rfl rfl rfl ?_
            refine rt_nil ?_
            refine tri_region ?_
            refine s_mv (.inl rfl) (by conv => lhs; whnf) rfl rfl rfl ?_
            refine grd_elim h fun g6 h => ?_
            refine s_addI rfl rfl rfl rfl g6 rfl rfl rfl ?_
            refine s_mv (.inr rfl) (by conv => lhs; whnf) rfl rfl rfl ?_
            refine rt_nil ?_
            refine Exists.intro ⟨(f0, v0_0 ++ [p0.extract v0_1.toNat v0_2.toNat], v0_2 + 1, v0_2 + 1), h⟩ (And.intro (Nat.lt_succ_self _) ?_)
            refine entX [((2003, 0), ⟨9, 1, List.map strV (v0_0 ++ [p0.extract v0_1.toNat v0_2.toNat]), false, true⟩, some (33, 0))] [] ⟨⟨rfl, _, rfl, rfl, rfl, rfl, id, rowsCv_eq rfl (allFree_map strV_free), rowsZ_map strV_len⟩, trivial⟩ trivial rfl rfl ?_
            exact ⟨(.free rfl), (.ref rfl), (.free rfl), (.free rfl), trivial⟩
          · replace h := cond_f h c2
            refine tri_skip ?_
            refine tri_region ?_
            refine s_mv (.inl rfl) (by conv => lhs; whnf) rfl rfl rfl ?_
            refine grd_elim h fun g7 h => ?_
            refine s_addI rfl rfl rfl rfl g7 rfl rfl rfl ?_
            refine s_mv (.inr rfl) (by conv => lhs; whnf) rfl rfl rfl ?_
            refine rt_nil ?_
            refine Exists.intro ⟨(f0, v0_0, v0_1, v0_2 + 1), h⟩ (And.intro (Nat.lt_succ_self _) ?_)
            refine entX [((2003, 0), ⟨9, 1, List.map strV v0_0, false, true⟩, some (2003, 0))] [] ⟨⟨rfl, _, rfl, rfl, rfl, rfl, id, rowsCv_eq rfl (allFree_map strV_free), rowsZ_map strV_len⟩, trivial⟩ trivial rfl rfl ?_
            exact ⟨(.free rfl), (.ref rfl), (.free rfl), (.free rfl), trivial⟩
      · replace h := cond_f h c1
        refine tri_exit ?_
        refine tri_seq ?_
        refine tri_region ?_
        refine s_mv (.inl rfl) (by conv => lhs; whnf) rfl rfl rfl ?_
        refine s_mv (.inr rfl) (by conv => lhs; whnf) rfl rfl rfl ?_
        refine rt_nil ?_
        refine tri_ret ?_
        have e0 := (some1 h); subst e0
        exact endY (v' := .ref (2000, 0) 0 v0_0.length) [((2000, 0), ⟨9, 1, List.map strV v0_0, false, true⟩, some (2003, 0))] [] (rvC (resTmp rfl) rvN) ⟨⟨rfl, _, rfl, rfl, rfl, rfl, id, rowsCv_eq rfl (allFree_map strV_free), rowsZ_map strV_len⟩, trivial⟩ trivial rfl rfl (by kernel_rfl) (by first | (simp only [V.mat, V.mat1, V.mat0, matL, matT, List.length_map]; done) | (simp only [V.mat, V.mat1, V.mat0, matL, matT, List.length_map]; rfl)) (.ref rfl)

/- spec.Under -/
def inv_s_Under_0 (x1 : List ByteArray) (x3 : List ByteArray) (v0_0 : Int) : St := mkT 38 [(5, .ref (9, 0) 0 x1.length), (6, .ref (11, 0) 0 x3.length), (7, .sc (.int .i64 v0_0))] [((9, 0), some ⟨9, 1, List.map strV x1, false, true⟩), ((11, 0), some ⟨9, 1, List.map strV x3, false, true⟩)]
set_option maxRecDepth 4000 in
set_option maxHeartbeats 800000 in
theorem ws_Under (p0 : ByteArray) (p1 : ByteArray) (r0 : Bool) (h : s_Under p0 p1 = some r0) : Runs Tryz.prog 97 [.sc (.string p0), .sc (.string p1)] [] (.sc (.bool r0)) [] := by
  unfold s_Under at h
  refine runsR [.tmp 4] Tryz.func97 rfl rfl rfl rfl ?_
  rw [Tryz.ntmps97]
  refine tri_seq ?_
  refine tri_region ?_
  refine s_mv (.inr rfl) (v := .sc (.bool false)) rfl rfl rfl rfl ?_
  refine rt_nil ?_
  refine tri_seq ?_
  refine tri_region ?_
  refine s_mv (.inl rfl) (by conv => lhs; whnf) rfl rfl rfl ?_
  refine bnd1_elim h fun x1 q2 h => ?_
  refine s_callN (kb := []) (ns := []) (v := .ref (9, 0) 0 x1.length) rfl rfl cl144 (ws_Labels p0 x1 q2) rfl (.cons (.free rfl) .nil) trivial memNil .nil memNil rfl ⟨(allSc_map strV_sc), trivial⟩ memNil rfl (by first | (simp only [V.mat, V.mat1, V.mat0, matL, matT, List.length_map]; done) | (simp only [V.mat, V.mat1, V.mat0, matL, matT, List.length_map]; rfl)) rfl rfl rfl rfl ?_
  refine s_mv (.inr rfl) (by conv => lhs; whnf) rfl rfl rfl ?_
  refine rt_nil ?_
  refine tri_seq ?_
  refine tri_region ?_
  refine s_mv (.inl rfl) (by conv => lhs; whnf) rfl rfl rfl ?_
  refine bnd1_elim h fun x3 q4 h => ?_
  refine s_callN (kb := []) (ns := []) (v := .ref (11, 0) 0 x3.length) rfl rfl cl144 (ws_Labels p1 x3 q4) rfl (.cons (.free rfl) .nil) trivial memNil .nil memNil rfl ⟨(allSc_map strV_sc), trivial⟩ memNil rfl (by first | (simp only [V.mat, V.mat1, V.mat0, matL, matT, List.length_map]; done) | (simp only [V.mat, V.mat1, V.mat0, matL, matT, List.length_map]; rfl)) rfl rfl rfl rfl ?_
  refine s_mv (.inr rfl) (by conv => lhs; whnf) rfl rfl rfl ?_
  refine rt_nil ?_
  refine tri_seq ?_
  refine tri_seq ?_
  refine tri_region ?_
  refine s_mv (.inl rfl) (by conv => lhs; whnf) rfl rfl rfl ?_
  refine s_len (m := x3.length) rfl sl112 rfl rfl rfl rfl ?_
  refine s_mv (.inl rfl) (by conv => lhs; whnf) rfl rfl rfl ?_
  refine s_len (m := x1.length) rfl sl112 rfl rfl rfl rfl ?_
  refine s_of (st_gtr rfl rfl rfl) rfl rfl rfl rfl ?_
  refine rt_nil ?_
  refine tri_cond rfl (fun c5 => ?_) (fun c5 => ?_)
  · replace h := cond_t h c5
    refine tri_seq ?_
    refine tri_region ?_
    refine s_mv (.inr rfl) (v := .sc (.bool false)) rfl rfl rfl rfl ?_
    refine rt_nil ?_
    refine tri_ret ?_
    have e0 := (some1 h); subst e0
    exact endY [] [] (rvC (resTmp rfl) rvN) trivial trivial rfl rfl rfl rfl (.free rfl)
  · replace h := cond_f h c5
    refine tri_skip ?_
    refine tri_seq ?_
    refine tri_seq ?_
    refine tri_region ?_
    refine s_mv (.inr rfl) (v := .sc (.int .i64 1)) rfl rfl rfl rfl ?_
    refine rt_nil ?_
    refine tri_block ?_
    refine tri_loop (ι := { p : Nat × Int // s_Under_l0 x1 x3 p.1 p.2 = some r0 }) (fun p => inv_s_Under_0 x1 x3 p.1.2) (fun p => p.1.1) ⟨(fuel0, 1), h⟩ ?_ ?_
    · skip
      refine entX [((9, 0), ⟨9, 1, List.map strV x1, false, true⟩, some (9, 0)), ((11, 0), ⟨9, 1, List.map strV x3, false, true⟩, some (11, 0))] [] ⟨⟨rfl, _, rfl, rfl, rfl, rfl, id, rowsCv_eq rfl (allFree_map strV_free), rowsZ_map strV_len⟩, ⟨rfl, _, rfl, rfl, rfl, rfl, id, rowsCv_eq rfl (allFree_map strV_free), rowsZ_map strV_len⟩, trivial⟩ trivial rfl rfl ?_
      exact ⟨(.ref rfl), (.ref rfl), (.free rfl), trivial⟩
    · rintro ⟨⟨f0, v0_0⟩, h⟩
      replace h : s_Under_l0 x1 x3 f0 v0_0 = some r0 := h
      cases f0 with
      | zero => cases h
      | succ f0 =>
      rw [s_Under_l0] at h
      show Tri _ _ _ (inv_s_Under_0 x1 x3 v0_0)
      refine tri_seq ?_
      refine tri_seq ?_
      refine tri_region ?_
      refine s_mv (.inl rfl) (by conv => lhs; whnf) rfl rfl rfl ?_
      refine s_mv (.inl rfl) (by conv => lhs; whnf) rfl rfl rfl ?_
      refine s_len (m := x3.length) rfl sl112 rfl rfl rfl rfl ?_
      refine s_of (st_leq rfl rfl rfl) rfl rfl rfl rfl ?_
      refine rt_nil ?_
      refine tri_cond rfl (fun c6 => ?_) (fun c6 => ?_)
      · replace h := cond_t h c6
        refine tri_skip ?_
        refine tri_seq ?_
        refine tri_block ?_
        refine tri_seq ?_
        refine tri_draw mixed ?_
        refine s_mv (.inl rfl) (by conv => lhs; whnf) rfl rfl rfl ?_
        refine s_mv (.inl rfl) (by conv => lhs; whnf) rfl rfl rfl ?_
        refine s_len (m := x1.length) rfl sl112 rfl rfl rfl rfl ?_
        refine s_mv (.inl rfl) (by conv => lhs; whnf) rfl rfl rfl ?_
        refine grd_elim h fun g7 h => ?_
        refine s_subI rfl rfl rfl rfl g7 rfl rfl rfl ?_
        refine bnd1_elim h fun x8 q9 h => ?_
        have q9a := (idx_some q9).1; have q9b := (idx_some q9).2
        refine s_indexZ rfl rfl rfl rfl sl112 rfl q9a (get_lt q9b) rfl rfl rfl ?_
        refine s_load rfl rfl rfl (rowG q9b) ty9 rfl (.inr rfl) (by conv => lhs; whnf) rfl rfl rfl ?_
        refine s_mv (.inl rfl) (by conv => lhs; whnf) rfl rfl rfl ?_
        refine s_mv (.inl rfl) (by conv => lhs; whnf) rfl rfl rfl ?_
        refine s_len (m := x3.length) rfl sl112 rfl rfl rfl rfl ?_
        refine s_mv (.inl rfl) (by conv => lhs; whnf) rfl rfl rfl ?_
        refine grd_elim h fun g10 h => ?_
        refine s_subI rfl rfl rfl rfl g10 rfl rfl rfl ?_
        refine bnd1_elim h fun x11 q12 h => ?_
        have q12a := (idx_some q12).1; have q12b := (idx_some q12).2
        refine s_indexZ rfl rfl rfl rfl sl112 rfl q12a (get_lt q12b) rfl rfl rfl ?_
        refine s_load rfl rfl rfl (rowG q12b) ty9 rfl (.inr rfl) (by conv => lhs; whnf) rfl rfl rfl ?_
        refine s_of (st_neS rfl rfl rfl) rfl rfl rfl rfl ?_
        refine rt_nil ⟨by kernel_rfl, ?_⟩
        refine tri_cond rfl (fun c13 => ?_) (fun c13 => ?_)
        · replace h := cond_t h c13
          refine tri_seq ?_
          refine tri_region ?_
          refine s_mv (.inr rfl) (v := .sc (.bool false)) rfl rfl rfl rfl ?_
          refine rt_nil ?_
          refine tri_ret ?_
          have e0 := (some1 h); subst e0
          exact endY [] [] (rvC (resTmp rfl) rvN) trivial trivial rfl rfl rfl rfl (.free rfl)
        · replace h := cond_f h c13
          refine tri_skip ?_
          refine tri_region ?_
          refine s_mv (.inl rfl) (by conv => lhs; whnf) rfl rfl rfl ?_
          refine grd_elim h fun g14 h => ?_
          refine s_addI rfl rfl rfl rfl g14 rfl rfl rfl ?_
          refine s_mv (.inr rfl) (by conv => lhs; whnf) rfl rfl rfl ?_
          refine rt_nil ?_
          refine Exists.intro ⟨(f0, v0_0 + 1), h⟩ (And.intro (Nat.lt_succ_self _) ?_)
          refine entX [((9, 0), ⟨9, 1, List.map strV x1, false, true⟩, some (9, 0)), ((11, 0), ⟨9, 1, List.map strV x3, false, true⟩, some (11, 0))] [] ⟨⟨rfl, _, rfl, rfl, rfl, rfl, id, rowsCv_eq rfl (allFree_map strV_free), rowsZ_map strV_len⟩, ⟨rfl, _, rfl, rfl, rfl, rfl, id, rowsCv_eq rfl (allFree_map strV_free), rowsZ_map strV_len⟩, trivial⟩ trivial rfl rfl ?_
          exact ⟨(.ref rfl), (.ref rfl), (.free rfl), trivial⟩
      · replace h := cond_f h c6
        refine tri_exit ?_
        refine tri_seq ?_
        refine tri_region ?_
        refine s_mv (.inr rfl) (v := .sc (.bool true)) rfl rfl rfl rfl ?_
        refine rt_nil ?_
        refine tri_ret ?_
        have e0 := (some1 h); subst e0
        exact endY [] [] (rvC (resTmp rfl) rvN) trivial trivial rfl rfl rfl rfl (.free rfl)

/- spec.PartsOf -/

set_option maxRecDepth 4000 in
set_option maxHeartbeats 800000 in
theorem ws_PartsOf (p0 : ByteArray) (r0 : Int) (h : s_PartsOf p0 = some r0) : Runs Tryz.prog 98 [.sc (.string p0)] [] (.sc (.int .i64 r0)) [] := by
  unfold s_PartsOf at h
  refine runsR [.tmp 2] Tryz.func98 rfl rfl rfl rfl ?_
  rw [Tryz.ntmps98]
  refine tri_seq ?_
  refine tri_region ?_
  refine s_mv (.inr rfl) (v := .sc (.int .i64 0)) rfl rfl rfl rfl ?_
  refine rt_nil ?_
  refine tri_seq ?_
  refine tri_region ?_
  refine s_mv (.inl rfl) (by conv => lhs; whnf) rfl rfl rfl ?_
  refine bnd1_elim h fun x1 q2 h => ?_
  refine s_callN (kb := []) (ns := []) (v := .ref (4, 0) 0 x1.length) rfl rfl cl144 (ws_Labels p0 x1 q2) rfl (.cons (.free rfl) .nil) trivial memNil .nil memNil rfl ⟨(allSc_map strV_sc), trivial⟩ memNil rfl (by first | (simp only [V.mat, V.mat1, V.mat0, matL, matT, List.length_map]; done) | (simp only [V.mat, V.mat1, V.mat0, matL, matT, List.length_map]; rfl)) rfl rfl rfl rfl ?_
  refine s_len (m := x1.length) rfl sl112 rfl rfl rfl rfl ?_
  refine s_mv (.inr rfl) (by conv => lhs; whnf) rfl rfl rfl ?_
  refine rt_nil ?_
  refine tri_ret ?_
  have e0 := (some1 h); subst e0
  exact endY [] [] (rvC (resTmp rfl) rvN) trivial trivial rfl rfl rfl rfl (.free rfl)

/- spec.ZoneAt -/
def inv_s_ZoneAt_1 (p0 : MForest) (p1 : Int) (p2 : ByteArray) (v0_0 : Int) (v0_1 : Nat) (j1_0 : Bool) : St := mkT 50 [(1, .sc (.int .i64 p1)), (2, .sc (.string p2)), (3, .ptr (3, 0) 0 0), (7, .sc (.int .i64 v0_0)), (8, .sc (.int .i64 (v0_1 : Int))), (47, .sc (.bool j1_0))] [((3, 0), some ⟨34, 2, [[.lst 2 (List.map mZoneV p0.zones), .lst 2 (List.map mPostV p0.posts)]], false, true⟩)]
def inv_s_ZoneAt_0 (p0 : MForest) (p1 : Int) (p2 : ByteArray) (v0_0 : Int) (v0_1 : Nat) : St := mkT 50 [(1, .sc (.int .i64 p1)), (2, .sc (.string p2)), (3, .ptr (3, 0) 0 0), (7, .sc (.int .i64 v0_0)), (8, .sc (.int .i64 (v0_1 : Int)))] [((3, 0), some ⟨34, 2, [[.lst 2 (List.map mZoneV p0.zones), .lst 2 (List.map mPostV p0.posts)]], false, true⟩)]
set_option maxRecDepth 4000 in
set_option maxHeartbeats 800000 in
theorem ws_ZoneAt (p0 : MForest) (p1 : Int) (p2 : ByteArray) (r0 : Int) (h : s_ZoneAt p0 p1 p2 = some r0) : Runs Tryz.prog 67 [.agg (mForestV p0), .sc (.int .i64 p1), .sc (.string p2)] [] (.sc (.int .i64 r0)) [] := by
  unfold s_ZoneAt at h
  refine runsR [.tmp 6] Tryz.func67 rfl rfl rfl rfl ?_
  rw [Tryz.ntmps67]
  refine tri_seq ?_
  refine tri_region ?_
  refine s_box rfl rfl rfl rfl rfl rfl rfl ?_
  refine s_mv (.inr rfl) (v := .sc (.int .i64 0)) rfl rfl rfl rfl ?_
  refine rt_nil ?_
  refine tri_seq ?_
  refine tri_region ?_
  refine s_mv (.inr rfl) (v := .sc (.int .i64 (-1))) rfl rfl rfl rfl ?_
  refine rt_nil ?_
  refine tri_seq ?_
  refine tri_seq ?_
  refine tri_region ?_
  refine s_mv (.inr rfl) (v := .sc (.int .i64 0)) rfl rfl rfl rfl ?_
  refine rt_nil ?_
  refine tri_block ?_
  refine tri_aggM 0 0 rfl rfl (fun hl0 => ?_)
  refine tri_loop (ι := { p : (List MZone) × Int × Nat // p0.zones.drop p.2.2 = p.1 ∧ s_ZoneAt_l0 p0 p1 p2 p.1 p.2.1 p.2.2 = some r0 }) (fun p => inv_s_ZoneAt_0 p0 p1 p2 p.1.2.1 p.1.2.2) (fun p => p.1.1.length) ⟨(p0.zones, (-1), 0), rfl, h⟩ ?_ ?_
  · skip
    refine entX [((3, 0), ⟨34, 2, [[.lst 2 (List.map mZoneV p0.zones), .lst 2 (List.map mPostV p0.posts)]], false, true⟩, some (3, 0))] [] ⟨⟨rfl, _, rfl, rfl, rfl, rfl, id, rowsCv_one (.cons (.free rfl) (.cons (.free rfl) .nil)), rowsZ_one rfl⟩, trivial⟩ trivial rfl rfl ?_
    exact ⟨(.free rfl), (.free rfl), (.ptr rfl), (.free rfl), (.free rfl), trivial⟩
  · rintro ⟨⟨lrs0, v0_0, v0_1⟩, hd0, h⟩
    replace hd0 : p0.zones.drop v0_1 = lrs0 := hd0
    replace h : s_ZoneAt_l0 p0 p1 p2 lrs0 v0_0 v0_1 = some r0 := h
    show Tri _ _ _ (inv_s_ZoneAt_0 p0 p1 p2 v0_0 v0_1)
    refine tri_seq ?_
    refine tri_seq ?_
    refine tri_region ?_
    refine s_mv (.inl rfl) (by conv => lhs; whnf) rfl rfl rfl ?_
    refine s_fieldAddr rfl rfl fd34_0 rfl rfl rfl rfl ?_
    refine s_load rfl rfl rfl rfl ty31 rfl (.inr rfl) (by conv => lhs; whnf) rfl rfl rfl ?_
    refine s_lenL rfl sl31 rfl rfl rfl rfl ?_
    refine s_of (st_lss rfl rfl rfl) rfl rfl rfl rfl ?_
    refine rt_nil ?_
    refine tri_cond rfl (fun c1 => ?_) (fun c1 => ?_)
    · refine drop_elim hd0 c1 fun e0 rs0 he hx0 hn0 => ?_
      subst he
      rw [s_ZoneAt_l0] at h
      refine tri_skip ?_
      refine tri_seq ?_
      refine tri_block ?_
      refine tri_seq ?_
      refine tri_region ?_
      refine s_fieldAddr rfl rfl fd34_0 rfl rfl rfl rfl ?_
      refine s_load rfl rfl rfl rfl ty31 rfl (.inr rfl) (by conv => lhs; whnf) rfl rfl rfl ?_
      refine s_mv (.inl rfl) (by conv => lhs; whnf) rfl rfl rfl ?_
      refine s_indexF (i := v0_1) rfl rfl rfl sl31 (get_ltM hx0) rfl rfl rfl ?_
      refine s_fieldAddrF rfl rfl fd83_0 rfl rfl rfl rfl ?_
      refine s_loadF rfl rfl (rowG hx0) ty9 rfl (.inr rfl) (by conv => lhs; whnf) rfl rfl rfl ?_
      refine s_mv (.inr rfl) (by conv => lhs; whnf) rfl rfl rfl ?_
      refine rt_nil ?_
      refine tri_cutI (ι := { p : Bool // s_ZoneAt_j1 v0_0 v0_1 (s_ZoneAt_l0 p0 p1 p2 rs0) p = some r0 }) (fun p => inv_s_ZoneAt_1 p0 p1 p2 v0_0 v0_1 p.1) ?_ ?_
      · skip
        refine tri_draw mixed ?_
        refine s_loadR rfl rfl rfl rfl ty34 rfl rfl rfl ?_
        refine s_mv (.inl rfl) (by conv => lhs; whnf) rfl rfl rfl ?_
        refine s_mv (.inl rfl) (by conv => lhs; whnf) rfl rfl rfl ?_
        refine bnd1_elim h fun x2 q3 h => ?_
        refine s_callN (kb := []) (ns := []) (v := .sc (.bool x2)) rfl rfl cl121 (ws_l12Posted p0 p1 e0.apex x2 q3) rfl (.cons (relAgg rfl) (.cons (.free rfl) (.cons (.free rfl) .nil))) trivial memNil .nil memNil rfl trivial memNil rfl rfl rfl rfl rfl rfl ?_
        refine s_mv (.inl rfl) (by conv => lhs; whnf) rfl rfl rfl ?_
        refine s_split (t := 27) rfl (fun b4 => ?_) (fun b4 => ?_)
        · replace h := cond_t h b4
          refine s_mv (.inl rfl) (by conv => lhs; whnf) rfl rfl rfl ?_
          refine s_mv (.inl rfl) (by conv => lhs; whnf) rfl rfl rfl ?_
          refine bnd1_elim h fun x5 q6 h => ?_
          refine s_callN (kb := []) (ns := []) (v := .sc (.bool x5)) rfl rfl cl97 (ws_Under p2 e0.apex x5 q6) rfl (.cons (.free rfl) (.cons (.free rfl) .nil)) trivial memNil .nil memNil rfl trivial memNil rfl rfl rfl rfl rfl rfl ?_
          refine s_pickT rfl rfl (by conv => lhs; whnf) rfl rfl rfl ?_
          refine s_mv (.inl rfl) (by conv => lhs; whnf) rfl rfl rfl ?_
          refine s_split (t := 32) rfl (fun b7 => ?_) (fun b7 => ?_)
          · replace h := cond_t h b7
            refine s_mv (.inl rfl) (by conv => lhs; whnf) rfl rfl rfl ?_
            refine s_of (st_lss rfl rfl rfl) rfl rfl rfl rfl ?_
            refine s_mv (.inl rfl) (by conv => lhs; whnf) rfl rfl rfl ?_
            refine s_split (t := 35) rfl (fun b8 => ?_) (fun b8 => ?_)
            · replace h := cond_t h b8
              refine s_skip rfl rfl rfl ?_
              refine s_skip rfl rfl rfl ?_
              refine s_skip rfl rfl rfl ?_
              refine s_skip rfl rfl rfl ?_
              refine s_skip rfl rfl rfl ?_
              refine s_skip rfl rfl rfl ?_
              refine s_skip rfl rfl rfl ?_
              refine s_skip rfl rfl rfl ?_
              refine s_skip rfl rfl rfl ?_
              refine s_skip rfl rfl rfl ?_
              refine s_pickT rfl rfl (v := .sc (.bool true)) rfl rfl rfl rfl ?_
              refine s_pickT rfl rfl (by conv => lhs; whnf) rfl rfl rfl ?_
              refine rt_nil ⟨by kernel_rfl, ?_⟩
              refine Exists.intro ⟨true, h⟩ ?_
              refine entX [((3, 0), ⟨34, 2, [[.lst 2 (List.map mZoneV p0.zones), .lst 2 (List.map mPostV p0.posts)]], false, true⟩, some (3, 0))] [] ⟨⟨rfl, _, rfl, rfl, rfl, rfl, id, rowsCv_one (.cons (.free rfl) (.cons (.free rfl) .nil)), rowsZ_one rfl⟩, trivial⟩ trivial rfl rfl ?_
              exact ⟨(.free rfl), (.free rfl), (.ptr rfl), (.free rfl), (.free rfl), (.free rfl), trivial⟩
            · replace h := cond_f h b8
              refine s_mv (.inl rfl) (by conv => lhs; whnf) rfl rfl rfl ?_
              refine bnd1_elim h fun x9 q10 h => ?_
              refine s_callN (kb := []) (ns := []) (v := .sc (.int .i64 x9)) rfl rfl cl98 (ws_PartsOf e0.apex x9 q10) rfl (.cons (.free rfl) .nil) trivial memNil .nil memNil rfl trivial memNil rfl rfl rfl rfl rfl rfl ?_
              refine s_fieldAddr rfl rfl fd34_0 rfl rfl rfl rfl ?_
              refine s_load rfl rfl rfl rfl ty31 rfl (.inr rfl) (by conv => lhs; whnf) rfl rfl rfl ?_
              refine s_mv (.inl rfl) (by conv => lhs; whnf) rfl rfl rfl ?_
              refine bnd1_elim h fun x11 q12 h => ?_
              have q12a := (idx_some q12).1; have q12b := (idx_some q12).2
              refine s_indexFZ rfl rfl rfl sl31 q12a (get_ltM q12b) rfl rfl rfl ?_
              refine s_fieldAddrF rfl rfl fd83_0 rfl rfl rfl rfl ?_
              refine s_loadF rfl rfl (rowG q12b) ty9 rfl (.inr rfl) (by conv => lhs; whnf) rfl rfl rfl ?_
              refine bnd1_elim h fun x13 q14 h => ?_
              refine s_callN (kb := []) (ns := []) (v := .sc (.int .i64 x13)) rfl rfl cl98 (ws_PartsOf x11.apex x13 q14) rfl (.cons (.free rfl) .nil) trivial memNil .nil memNil rfl trivial memNil rfl rfl rfl rfl rfl rfl ?_
              refine s_of (st_gtr rfl rfl rfl) rfl rfl rfl rfl ?_
              refine s_pickF rfl rfl (by conv => lhs; whnf) rfl rfl rfl ?_
              refine s_pickT rfl rfl (by conv => lhs; whnf) rfl rfl rfl ?_
              refine rt_nil ⟨by kernel_rfl, ?_⟩
              refine Exists.intro ⟨decide (x13 < x9), h⟩ ?_
              refine entX [((3, 0), ⟨34, 2, [[.lst 2 (List.map mZoneV p0.zones), .lst 2 (List.map mPostV p0.posts)]], false, true⟩, some (3, 0))] [] ⟨⟨rfl, _, rfl, rfl, rfl, rfl, id, rowsCv_one (.cons (.free rfl) (.cons (.free rfl) .nil)), rowsZ_one rfl⟩, trivial⟩ trivial rfl rfl ?_
              exact ⟨(.free rfl), (.free rfl), (.ptr rfl), (.free rfl), (.free rfl), (.free rfl), trivial⟩
          · replace h := cond_f h b7
            refine s_skip rfl rfl rfl ?_
            refine s_skip rfl rfl rfl ?_
            refine s_skip rfl rfl rfl ?_
            refine s_skip rfl rfl rfl ?_
            refine s_skip rfl rfl rfl ?_
            refine s_skip rfl rfl rfl ?_
            refine s_skip rfl rfl rfl ?_
            refine s_skip rfl rfl rfl ?_
            refine s_skip rfl rfl rfl ?_
            refine s_skip rfl rfl rfl ?_
            refine s_skip rfl rfl rfl ?_
            refine s_skip rfl rfl rfl ?_
            refine s_skip rfl rfl rfl ?_
            refine s_skip rfl rfl rfl ?_
            refine s_pickF rfl rfl (v := .sc (.bool false)) rfl rfl rfl rfl ?_
            refine rt_nil ⟨by kernel_rfl, ?_⟩
            refine Exists.intro ⟨false, h⟩ ?_
            refine entX [((3, 0), ⟨34, 2, [[.lst 2 (List.map mZoneV p0.zones), .lst 2 (List.map mPostV p0.posts)]], false, true⟩, some (3, 0))] [] ⟨⟨rfl, _, rfl, rfl, rfl, rfl, id, rowsCv_one (.cons (.free rfl) (.cons (.free rfl) .nil)), rowsZ_one rfl⟩, trivial⟩ trivial rfl rfl ?_
            exact ⟨(.free rfl), (.free rfl), (.ptr rfl), (.free rfl), (.free rfl), (.free rfl), trivial⟩
        · replace h := cond_f h b4
          refine s_skip rfl rfl rfl ?_
          refine s_skip rfl rfl rfl ?_
          refine s_skip rfl rfl rfl ?_
          refine s_pickF rfl rfl (v := .sc (.bool false)) rfl rfl rfl rfl ?_
          refine s_mv (.inl rfl) (by conv => lhs; whnf) rfl rfl rfl ?_
          refine s_skip rfl rfl rfl ?_
          refine s_skip rfl rfl rfl ?_
          refine s_skip rfl rfl rfl ?_
          refine s_skip rfl rfl rfl ?_
          refine s_skip rfl rfl rfl ?_
          refine s_skip rfl rfl rfl ?_
          refine s_skip rfl rfl rfl ?_
          refine s_skip rfl rfl rfl ?_
          refine s_skip rfl rfl rfl ?_
          refine s_skip rfl rfl rfl ?_
          refine s_skip rfl rfl rfl ?_
          refine s_skip rfl rfl rfl ?_
          refine s_skip rfl rfl rfl ?_
          refine s_skip rfl rfl rfl ?_
          refine s_pickF rfl rfl (v := .sc (.bool false)) rfl rfl rfl rfl ?_
          refine rt_nil ⟨by kernel_rfl, ?_⟩
          refine Exists.intro ⟨false, h⟩ ?_
          refine entX [((3, 0), ⟨34, 2, [[.lst 2 (List.map mZoneV p0.zones), .lst 2 (List.map mPostV p0.posts)]], false, true⟩, some (3, 0))] [] ⟨⟨rfl, _, rfl, rfl, rfl, rfl, id, rowsCv_one (.cons (.free rfl) (.cons (.free rfl) .nil)), rowsZ_one rfl⟩, trivial⟩ trivial rfl rfl ?_
          exact ⟨(.free rfl), (.free rfl), (.ptr rfl), (.free rfl), (.free rfl), (.free rfl), trivial⟩
      · rintro ⟨j1_0, h⟩
        replace h : s_ZoneAt_j1 v0_0 v0_1 (s_ZoneAt_l0 p0 p1 p2 rs0) j1_0 = some r0 := h
        unfold s_ZoneAt_j1 at h
        show Tri _ _ _ (inv_s_ZoneAt_1 p0 p1 p2 v0_0 v0_1 j1_0)
        refine tri_cond rfl (fun c2 => ?_) (fun c2 => ?_)
        · replace h := cond_t h c2
          refine tri_region ?_
          refine s_mv (.inl rfl) (by conv => lhs; whnf) rfl rfl rfl ?_
          refine s_mv (.inr rfl) (by conv => lhs; whnf) rfl rfl rfl ?_
          refine rt_nil ?_
          refine tri_region ?_
          refine s_mv (.inl rfl) (by conv => lhs; whnf) rfl rfl rfl ?_
          refine s_inc (a := v0_1) (b := 1) rfl rfl rfl rfl (by have := get_lt hx0; have := hl0; omega) rfl rfl rfl ?_
          refine s_mv (.inr rfl) (by conv => lhs; whnf) rfl rfl rfl ?_
          refine rt_nil ?_
          refine Exists.intro ⟨(rs0, (v0_1 : Int), (v0_1 + 1)), hn0, h⟩ (And.intro (Nat.lt_succ_self _) ?_)
          refine entX [((3, 0), ⟨34, 2, [[.lst 2 (List.map mZoneV p0.zones), .lst 2 (List.map mPostV p0.posts)]], false, true⟩, some (3, 0))] [] ⟨⟨rfl, _, rfl, rfl, rfl, rfl, id, rowsCv_one (.cons (.free rfl) (.cons (.free rfl) .nil)), rowsZ_one rfl⟩, trivial⟩ trivial rfl rfl ?_
          exact ⟨(.free rfl), (.free rfl), (.ptr rfl), (.free rfl), (.free rfl), trivial⟩
        · replace h := cond_f h c2
          refine tri_skip ?_
          refine tri_region ?_
          refine s_mv (.inl rfl) (by conv => lhs; whnf) rfl rfl rfl ?_
          refine s_inc (a := v0_1) (b := 1) rfl rfl rfl rfl (by have := get_lt hx0; have := hl0; omega) rfl rfl rfl ?_
          refine s_mv (.inr rfl) (by conv => lhs; whnf) rfl rfl rfl ?_
          refine rt_nil ?_
          refine Exists.intro ⟨(rs0, v0_0, (v0_1 + 1)), hn0, h⟩ (And.intro (Nat.lt_succ_self _) ?_)
          refine entX [((3, 0), ⟨34, 2, [[.lst 2 (List.map mZoneV p0.zones), .lst 2 (List.map mPostV p0.posts)]], false, true⟩, some (3, 0))] [] ⟨⟨rfl, _, rfl, rfl, rfl, rfl, id, rowsCv_one (.cons (.free rfl) (.cons (.free rfl) .nil)), rowsZ_one rfl⟩, trivial⟩ trivial rfl rfl ?_
          exact ⟨(.free rfl), (.free rfl), (.ptr rfl), (.free rfl), (.free rfl), trivial⟩
    · have he := drop_f hd0 c1; subst he
      rw [s_ZoneAt_l0] at h
      refine tri_exit ?_
      refine tri_seq ?_
      refine tri_region ?_
      refine s_mv (.inl rfl) (by conv => lhs; whnf) rfl rfl rfl ?_
      refine s_mv (.inr rfl) (by conv => lhs; whnf) rfl rfl rfl ?_
      refine rt_nil ?_
      refine tri_ret ?_
      have e0 := (some1 h); subst e0
      exact endY [] [] (rvC (resTmp rfl) rvN) trivial trivial rfl rfl rfl rfl (.free rfl)

/- spec.l7Copy -/

set_option maxRecDepth 4000 in
set_option maxHeartbeats 800000 in
theorem ws_l7Copy (p0 : List Rec) (r0 : List Rec) (h : s_l7Copy p0 = some r0) : Runs Tryz.prog 40 [.lst 6 (List.map recV p0)] [] (.own 48 6 (List.map recV r0)) [] := by
  unfold s_l7Copy at h
  refine runsR [.tmp 2] Tryz.func40 rfl rfl rfl rfl ?_
  rw [Tryz.ntmps40]
  refine tri_seq ?_
  refine tri_region ?_
  refine s_mv (.inr rfl) (v := .nils) rfl rfl rfl rfl ?_
  refine rt_nil ?_
  refine tri_seq ?_
  refine tri_region ?_
  refine s_buildSlice (rows' := List.map recV ([] : List Rec)) rfl rfl rfl sl24 zc48 rfl rfl rfl rfl rfl rfl rfl rfl rfl ?_
  refine s_mv (.inl rfl) (by conv => lhs; whnf) rfl rfl rfl ?_
  refine grd_elim h fun g1 h => ?_
  refine s_appL rfl rfl rfl sl24 zc48 rfl rfl rfl rfl rfl rfl src_lst g1 rfl rfl ?_
  refine s_mv (.inr rfl) (by conv => lhs; whnf) rfl rfl rfl ?_
  refine rt_nil ?_
  refine tri_ret ?_
  have e0 := (some1 h); subst e0
  exact endY (v' := .ref (2000, 0) 0 ((([] : List Rec) ++ p0).length)) [((2000, 0), ⟨48, 6, List.map recV (([] : List Rec) ++ p0), false, true⟩, some (5, 0))] [] (rvC (resTmp rfl) rvN) ⟨⟨rfl, _, rfl, rfl, rfl, rfl, id, rowsCv_eq rfl (allFree_map recV_free), rowsZ_map recV_len⟩, trivial⟩ trivial rfl rfl (by kernel_rfl) (by first | (simp only [V.mat, V.mat1, V.mat0, matL, matT, List.length_map]; done) | (simp only [V.mat, V.mat1, V.mat0, matL, matT, List.length_map]; rfl)) (.ref rfl)

/- spec.ReplyTo -/

set_option maxRecDepth 4000 in
set_option maxHeartbeats 800000 in
theorem ws_ReplyTo (p0 : MMsg) (p1 : Int) (p2 : Bool) (p3 : List Rec) (p4 : List Rec) (p5 : List Rec) (r0 : MMsg) (h : s_ReplyTo p0 p1 p2 p3 p4 p5 = some r0) : Runs Tryz.prog 68 [.agg (mMsgV p0), .sc (.int .i64 p1), .sc (.bool p2), .lst 6 (List.map recV p3), .lst 6 (List.map recV p4), .lst 6 (List.map recV p5)] [] (.agg [.sc (.int .i64 r0.id), .sc (.bool r0.reply), .sc (.bool r0.auth), .sc (.bool r0.cut), .sc (.bool r0.want), .sc (.bool r0.can), .sc (.int .i64 r0.code), .sc (.string r0.q.name), .sc (.int .i64 r0.q.ty), .own 48 6 (List.map recV r0.an), .own 48 6 (List.map recV r0.au), .own 48 6 (List.map recV r0.ad)]) [] := by
  unfold s_ReplyTo at h
  refine runsR [.cell 12 60] Tryz.func68 rfl rfl rfl rfl ?_
  rw [Tryz.ntmps68]
  refine tri_seq ?_
  refine tri_region ?_
  refine s_box rfl rfl rfl rfl rfl rfl rfl ?_
  refine s_alloc rfl rfl rfl zc60 rfl rfl rfl rfl rfl ?_
  refine rt_nil ?_
  refine tri_seq ?_
  refine tri_draw mixed ?_
  refine s_fieldAddr rfl rfl fd60_0 rfl rfl rfl rfl ?_
  refine s_load rfl rfl rfl rfl ty3 rfl (.inr rfl) (by conv => lhs; whnf) rfl rfl rfl ?_
  refine s_mv (.inl rfl) (by conv => lhs; whnf) rfl rfl rfl ?_
  refine s_fieldAddr rfl rfl fd60_4 rfl rfl rfl rfl ?_
  refine s_load rfl rfl rfl rfl ty4 rfl (.inr rfl) (by conv => lhs; whnf) rfl rfl rfl ?_
  refine s_mv (.inl rfl) (by conv => lhs; whnf) rfl rfl rfl ?_
  refine s_fieldAddr rfl rfl fd60_7 rfl rfl rfl rfl ?_
  refine s_load (v := .agg (questV p0.q)) rfl rfl rfl rfl ty36 rfl (.inl rfl) rfl rfl rfl rfl ?_
  refine s_mv (.inl rfl) (by conv => lhs; whnf) rfl rfl rfl ?_
  refine bnd1_elim h fun x1 q2 h => ?_
  refine s_callN (kb := []) (ns := []) (v := .ref (22, 0) 0 x1.length) rfl rfl cl40 (ws_l7Copy p3 x1 q2) rfl (.cons (.free rfl) .nil) trivial memNil .nil memNil rfl ⟨(allSc_map recV_sc), trivial⟩ memNil rfl (by first | (simp only [V.mat, V.mat1, V.mat0, matL, matT, List.length_map]; done) | (simp only [V.mat, V.mat1, V.mat0, matL, matT, List.length_map]; rfl)) rfl rfl rfl rfl ?_
  refine s_mv (.inl rfl) (by conv => lhs; whnf) rfl rfl rfl ?_
  refine bnd1_elim h fun x3 q4 h => ?_
  refine s_callN (kb := []) (ns := []) (v := .ref (24, 0) 0 x3.length) rfl rfl cl40 (ws_l7Copy p4 x3 q4) rfl (.cons (.free rfl) .nil) trivial memNil .nil memNil rfl ⟨(allSc_map recV_sc), trivial⟩ memNil rfl (by first | (simp only [V.mat, V.mat1, V.mat0, matL, matT, List.length_map]; done) | (simp only [V.mat, V.mat1, V.mat0, matL, matT, List.length_map]; rfl)) rfl rfl rfl rfl ?_
  refine s_mv (.inl rfl) (by conv => lhs; whnf) rfl rfl rfl ?_
  refine bnd1_elim h fun x5 q6 h => ?_
  refine s_callN (kb := []) (ns := []) (v := .ref (26, 0) 0 x5.length) rfl rfl cl40 (ws_l7Copy p5 x5 q6) rfl (.cons (.free rfl) .nil) trivial memNil .nil memNil rfl ⟨(allSc_map recV_sc), trivial⟩ memNil rfl (by first | (simp only [V.mat, V.mat1, V.mat0, matL, matT, List.length_map]; done) | (simp only [V.mat, V.mat1, V.mat0, matL, matT, List.length_map]; rfl)) rfl rfl rfl rfl ?_
  refine s_build (cells' := [.sc (.int .i64 p0.id), .sc (.bool true), .sc (.bool p2), .sc (.bool false), .sc (.bool p0.want), .sc (.bool false), .sc (.int .i64 p1), .sc (.string p0.q.name), .sc (.int .i64 p0.q.ty), .ref (22, 0) 0 x1.length, .ref (24, 0) 0 x3.length, .ref (26, 0) 0 x5.length]) rfl stc60 rfl rfl rfl (by kernel_rfl) rfl rfl rfl ?_
  refine s_storeB rfl rfl rfl ty60 rfl rfl rfl rfl rfl ?_
  refine rt_nil ⟨by kernel_rfl, ?_⟩
  refine tri_ret ?_
  have e0 := (some1 h); subst e0
  exact endY (v' := .agg [.sc (.int .i64 p0.id), .sc (.bool true), .sc (.bool p2), .sc (.bool false), .sc (.bool p0.want), .sc (.bool false), .sc (.int .i64 p1), .sc (.string p0.q.name), .sc (.int .i64 p0.q.ty), .ref (2000, 9) 0 x1.length, .ref (2000, 10) 0 x3.length, .ref (2000, 11) 0 x5.length]) [((2000, 9), ⟨48, 6, List.map recV x1, false, true⟩, some (22, 0)), ((2000, 10), ⟨48, 6, List.map recV x3, false, true⟩, some (24, 0)), ((2000, 11), ⟨48, 6, List.map recV x5, false, true⟩, some (26, 0))] [] (rvC (resCell rfl rfl ty60) rvN) ⟨⟨rfl, _, rfl, rfl, rfl, rfl, id, rowsCv_eq rfl (allFree_map recV_free), rowsZ_map recV_len⟩, ⟨rfl, _, rfl, rfl, rfl, rfl, id, rowsCv_eq rfl (allFree_map recV_free), rowsZ_map recV_len⟩, ⟨rfl, _, rfl, rfl, rfl, rfl, id, rowsCv_eq rfl (allFree_map recV_free), rowsZ_map recV_len⟩, trivial⟩ trivial rfl rfl (by kernel_rfl) (by first | (simp only [V.mat, V.mat1, V.mat0, matL, matT, List.length_map]; done) | (simp only [V.mat, V.mat1, V.mat0, matL, matT, List.length_map]; rfl)) (CvL.agg (.cons (.free rfl) (.cons (.free rfl) (.cons (.free rfl) (.cons (.free rfl) (.cons (.free rfl) (.cons (.free rfl) (.cons (.free rfl) (.cons (.free rfl) (.cons (.free rfl) (.cons (.ref rfl) (.cons (.ref rfl) (.cons (.ref rfl) .nil)))))))))))))

/- spec.l9Has -/
def inv_s_l9Has_0 (p0 : List ByteArray) (p1 : ByteArray) (v0_0 : Nat) : St := mkT 18 [(0, .lst 1 (List.map strV p0)), (1, .sc (.string p1)), (5, .sc (.int .i64 (v0_0 : Int)))] []
set_option maxRecDepth 4000 in
set_option maxHeartbeats 800000 in
theorem ws_l9Has (p0 : List ByteArray) (p1 : ByteArray) (r0 : Bool) (h : s_l9Has p0 p1 = some r0) : Runs Tryz.prog 171 [.lst 1 (List.map strV p0), .sc (.string p1)] [] (.sc (.bool r0)) [] := by
  unfold s_l9Has at h
  refine runsR [.tmp 4] Tryz.func171 rfl rfl rfl rfl ?_
  rw [Tryz.ntmps171]
  refine tri_seq ?_
  refine tri_region ?_
  refine s_mv (.inr rfl) (v := .sc (.bool false)) rfl rfl rfl rfl ?_
  refine rt_nil ?_
  refine tri_seq ?_
  refine tri_seq ?_
  refine tri_region ?_
  refine s_mv (.inr rfl) (v := .sc (.int .i64 0)) rfl rfl rfl rfl ?_
  refine rt_nil ?_
  refine tri_block ?_
  refine tri_lstM 0 rfl (fun hl0 => ?_)
  refine tri_loop (ι := { p : (List ByteArray) × Nat // p0.drop p.2 = p.1 ∧ s_l9Has_l0 p1 p.1 p.2 = some r0 }) (fun p => inv_s_l9Has_0 p0 p1 p.1.2) (fun p => p.1.1.length) ⟨(p0, 0), rfl, h⟩ ?_ ?_
  · skip
    refine entX [] [] trivial trivial rfl rfl ?_
    exact ⟨(.free rfl), (.free rfl), (.free rfl), trivial⟩
  · rintro ⟨⟨lrs0, v0_0⟩, hd0, h⟩
    replace hd0 : p0.drop v0_0 = lrs0 := hd0
    replace h : s_l9Has_l0 p1 lrs0 v0_0 = some r0 := h
    show Tri _ _ _ (inv_s_l9Has_0 p0 p1 v0_0)
    refine tri_seq ?_
    refine tri_seq ?_
    refine tri_region ?_
    refine s_mv (.inl rfl) (by conv => lhs; whnf) rfl rfl rfl ?_
    refine s_mv (.inl rfl) (by conv => lhs; whnf) rfl rfl rfl ?_
    refine s_lenL rfl sl112 rfl rfl rfl rfl ?_
    refine s_of (st_lss rfl rfl rfl) rfl rfl rfl rfl ?_
    refine rt_nil ?_
    refine tri_cond rfl (fun c1 => ?_) (fun c1 => ?_)
    · refine drop_elim hd0 c1 fun e0 rs0 he hx0 hn0 => ?_
      subst he
      rw [s_l9Has_l0] at h
      refine tri_skip ?_
      refine tri_seq ?_
      refine tri_block ?_
      refine tri_seq ?_
      refine tri_region ?_
      refine s_mv (.inl rfl) (by conv => lhs; whnf) rfl rfl rfl ?_
      refine s_mv (.inl rfl) (by conv => lhs; whnf) rfl rfl rfl ?_
      refine s_indexF (i := v0_0) rfl rfl rfl sl112 (get_ltM hx0) rfl rfl rfl ?_
      refine s_loadF rfl rfl (rowG hx0) ty9 rfl (.inr rfl) (by conv => lhs; whnf) rfl rfl rfl ?_
      refine s_mv (.inl rfl) (by conv => lhs; whnf) rfl rfl rfl ?_
      refine s_of (st_eqS rfl rfl rfl) rfl rfl rfl rfl ?_
      refine rt_nil ?_
      refine tri_cond rfl (fun c2 => ?_) (fun c2 => ?_)
      · replace h := cond_t h c2
        refine tri_seq ?_
        refine tri_region ?_
        refine s_mv (.inr rfl) (v := .sc (.bool true)) rfl rfl rfl rfl ?_
        refine rt_nil ?_
        refine tri_ret ?_
        have e0 := (some1 h); subst e0
        exact endY [] [] (rvC (resTmp rfl) rvN) trivial trivial rfl rfl rfl rfl (.free rfl)
      · replace h := cond_f h c2
        refine tri_skip ?_
        refine tri_region ?_
        refine s_mv (.inl rfl) (by conv => lhs; whnf) rfl rfl rfl ?_
        refine s_inc (a := v0_0) (b := 1) rfl rfl rfl rfl (by have := get_lt hx0; have := hl0; omega) rfl rfl rfl ?_
        refine s_mv (.inr rfl) (by conv => lhs; whnf) rfl rfl rfl ?_
        refine rt_nil ?_
        refine Exists.intro ⟨(rs0, (v0_0 + 1)), hn0, h⟩ (And.intro (Nat.lt_succ_self _) ?_)
        refine entX [] [] trivial trivial rfl rfl ?_
        exact ⟨(.free rfl), (.free rfl), (.free rfl), trivial⟩
    · have he := drop_f hd0 c1; subst he
      rw [s_l9Has_l0] at h
      refine tri_exit ?_
      refine tri_seq ?_
      refine tri_region ?_
      refine s_mv (.inr rfl) (v := .sc (.bool false)) rfl rfl rfl rfl ?_
      refine rt_nil ?_
      refine tri_ret ?_
      have e0 := (some1 h); subst e0
      exact endY [] [] (rvC (resTmp rfl) rvN) trivial trivial rfl rfl rfl rfl (.free rfl)

/- spec.CutsOf -/
def inv_s_CutsOf_1 (p0 : MZone) (v0_0 : List ByteArray) (v0_1 : Nat) (e0 : Rec) (j1_0 : Bool) : St := mkT 49 [(1, .ptr (1, 0) 0 0), (3, .ref (2003, 0) 0 v0_0.length), (4, .sc (.int .i64 (v0_1 : Int))), (5, .ptr (5, 0) 0 0), (42, .sc (.bool j1_0))] [((1, 0), some ⟨83, 2, [[.sc (.string p0.apex), .lst 6 (List.map recV p0.l)]], false, true⟩), ((2003, 0), some ⟨9, 1, List.map strV v0_0, false, true⟩), ((5, 0), some ⟨48, 6, [[.sc (.string e0.name), .sc (.int .i64 e0.ty), .sc (.int .i64 e0.ttl), .sc (.int .i64 e0.n), .sc (.string e0.host), .sc (.string e0.text)]], false, true⟩)]
def inv_s_CutsOf_0 (p0 : MZone) (v0_0 : List ByteArray) (v0_1 : Nat) : St := mkT 49 [(1, .ptr (1, 0) 0 0), (3, .ref (2003, 0) 0 v0_0.length), (4, .sc (.int .i64 (v0_1 : Int)))] [((1, 0), some ⟨83, 2, [[.sc (.string p0.apex), .lst 6 (List.map recV p0.l)]], false, true⟩), ((2003, 0), some ⟨9, 1, List.map strV v0_0, false, true⟩)]
set_option maxRecDepth 4000 in
set_option maxHeartbeats 800000 in
theorem ws_CutsOf (p0 : MZone) (r0 : List ByteArray) (h : s_CutsOf p0 = some r0) : Runs Tryz.prog 145 [.agg (mZoneV p0)] [] (.own 9 1 (List.map strV r0)) [] := by
  unfold s_CutsOf at h
  refine runsR [.tmp 2] Tryz.func145 rfl rfl rfl rfl ?_
  rw [Tryz.ntmps145]
  refine tri_seq ?_
  refine tri_region ?_
  refine s_box rfl rfl rfl rfl rfl rfl rfl ?_
  refine s_mv (.inr rfl) (v := .nils) rfl rfl rfl rfl ?_
  refine rt_nil ?_
  refine tri_seq ?_
  refine tri_region ?_
  refine s_buildSlice (rows' := List.map strV ([] : List ByteArray)) rfl rfl rfl sl112 zc9 rfl rfl rfl rfl rfl rfl rfl rfl rfl ?_
  refine s_mv (.inr rfl) (by conv => lhs; whnf) rfl rfl rfl ?_
  refine rt_nil ?_
  refine tri_seq ?_
  refine tri_seq ?_
  refine tri_region ?_
  refine s_mv (.inr rfl) (v := .sc (.int .i64 0)) rfl rfl rfl rfl ?_
  refine rt_nil ?_
  refine tri_block ?_
  refine tri_aggM 0 1 rfl rfl (fun hl0 => ?_)
  refine tri_loop (ι := { p : (List Rec) × (List ByteArray) × Nat // p0.l.drop p.2.2 = p.1 ∧ s_CutsOf_l0 p0 p.1 p.2.1 p.2.2 = some r0 }) (fun p => inv_s_CutsOf_0 p0 p.1.2.1 p.1.2.2) (fun p => p.1.1.length) ⟨(p0.l, ([] : List ByteArray), 0), rfl, h⟩ ?_ ?_
  · skip
    refine entX [((1, 0), ⟨83, 2, [[.sc (.string p0.apex), .lst 6 (List.map recV p0.l)]], false, true⟩, some (1, 0)), ((2003, 0), ⟨9, 1, List.map strV ([] : List ByteArray), false, true⟩, some (6, 0))] [] ⟨⟨rfl, _, rfl, rfl, rfl, rfl, id, rowsCv_one (.cons (.free rfl) (.cons (.free rfl) .nil)), rowsZ_one rfl⟩, ⟨rfl, _, rfl, rfl, rfl, rfl, id, rowsCv_eq rfl (allFree_map strV_free), rowsZ_map strV_len⟩, trivial⟩ trivial rfl rfl ?_
    exact ⟨(.ptr rfl), (.ref rfl), (.free rfl), trivial⟩
  · rintro ⟨⟨lrs0, v0_0, v0_1⟩, hd0, h⟩
    replace hd0 : p0.l.drop v0_1 = lrs0 := hd0
    replace h : s_CutsOf_l0 p0 lrs0 v0_0 v0_1 = some r0 := h
    show Tri _ _ _ (inv_s_CutsOf_0 p0 v0_0 v0_1)
    refine tri_seq ?_
    refine tri_seq ?_
    refine tri_region ?_
    refine s_mv (.inl rfl) (by conv => lhs; whnf) rfl rfl rfl ?_
    refine s_fieldAddr rfl rfl fd83_1 rfl rfl rfl rfl ?_
    refine s_load rfl rfl rfl rfl ty24 rfl (.inr rfl) (by conv => lhs; whnf) rfl rfl rfl ?_
    refine s_lenL rfl sl24 rfl rfl rfl rfl ?_
    refine s_of (st_lss rfl rfl rfl) rfl rfl rfl rfl ?_
    refine rt_nil ?_
    refine tri_cond rfl (fun c1 => ?_) (fun c1 => ?_)
    · refine drop_elim hd0 c1 fun e0 rs0 he hx0 hn0 => ?_
      subst he
      rw [s_CutsOf_l0] at h
      refine tri_skip ?_
      refine tri_seq ?_
      refine tri_block ?_
      refine tri_seq ?_
      refine tri_region ?_
      refine s_fieldAddr rfl rfl fd83_1 rfl rfl rfl rfl ?_
      refine s_load rfl rfl rfl rfl ty24 rfl (.inr rfl) (by conv => lhs; whnf) rfl rfl rfl ?_
      refine s_mv (.inl rfl) (by conv => lhs; whnf) rfl rfl rfl ?_
      refine s_indexF (i := v0_1) rfl rfl rfl sl24 (get_ltM hx0) rfl rfl rfl ?_
      refine s_loadFR rfl rfl (rowG hx0) ty48 rfl rfl rfl ?_
      refine s_alloc rfl rfl rfl zc48 rfl rfl rfl rfl rfl ?_
      refine s_storeB rfl rfl rfl ty48 rfl rfl rfl rfl rfl ?_
      refine rt_nil ?_
      refine tri_cutI (ι := { p : Bool // s_CutsOf_j1 v0_0 v0_1 e0 (s_CutsOf_l0 p0 rs0) p = some r0 }) (fun p => inv_s_CutsOf_1 p0 v0_0 v0_1 e0 p.1) ?_ ?_
      · skip
        refine tri_region ?_
        refine s_fieldAddr rfl rfl fd48_1 rfl rfl rfl rfl ?_
        refine s_load rfl rfl rfl rfl ty3 rfl (.inr rfl) (by conv => lhs; whnf) rfl rfl rfl ?_
        refine s_of (st_eqI rfl rfl rfl) rfl rfl rfl rfl ?_
        refine s_mv (.inl rfl) (by conv => lhs; whnf) rfl rfl rfl ?_
        refine s_split (t := 22) rfl (fun b2 => ?_) (fun b2 => ?_)
        · replace h := cond_t h b2
          refine s_fieldAddr rfl rfl fd48_0 rfl rfl rfl rfl ?_
          refine s_load rfl rfl rfl rfl ty9 rfl (.inr rfl) (by conv => lhs; whnf) rfl rfl rfl ?_
          refine s_fieldAddr rfl rfl fd83_0 rfl rfl rfl rfl ?_
          refine s_load rfl rfl rfl rfl ty9 rfl (.inr rfl) (by conv => lhs; whnf) rfl rfl rfl ?_
          refine s_of (st_neS rfl rfl rfl) rfl rfl rfl rfl ?_
          refine s_pickT rfl rfl (by conv => lhs; whnf) rfl rfl rfl ?_
          refine s_mv (.inl rfl) (by conv => lhs; whnf) rfl rfl rfl ?_
          refine s_split (t := 29) rfl (fun b3 => ?_) (fun b3 => ?_)
          · replace h := cond_t h b3
            refine s_fieldAddr rfl rfl fd48_0 rfl rfl rfl rfl ?_
            refine s_load rfl rfl rfl rfl ty9 rfl (.inr rfl) (by conv => lhs; whnf) rfl rfl rfl ?_
            refine s_fieldAddr rfl rfl fd83_0 rfl rfl rfl rfl ?_
            refine s_load rfl rfl rfl rfl ty9 rfl (.inr rfl) (by conv => lhs; whnf) rfl rfl rfl ?_
            refine bnd1_elim h fun x4 q5 h => ?_
            refine s_callN (kb := []) (ns := []) (v := .sc (.bool x4)) rfl rfl cl97 (ws_Under e0.name p0.apex x4 q5) rfl (.cons (.free rfl) (.cons (.free rfl) .nil)) trivial memNil .nil memNil rfl trivial memNil rfl rfl rfl rfl rfl rfl ?_
            refine s_pickT rfl rfl (by conv => lhs; whnf) rfl rfl rfl ?_
            refine s_mv (.inl rfl) (by conv => lhs; whnf) rfl rfl rfl ?_
            refine s_split (t := 36) rfl (fun b6 => ?_) (fun b6 => ?_)
            · replace h := cond_t h b6
              refine s_mv (.inl rfl) (by conv => lhs; whnf) rfl rfl rfl ?_
              refine s_fieldAddr rfl rfl fd48_0 rfl rfl rfl rfl ?_
              refine s_load rfl rfl rfl rfl ty9 rfl (.inr rfl) (by conv => lhs; whnf) rfl rfl rfl ?_
              refine bnd1_elim h fun x7 q8 h => ?_
              refine s_callN (kb := [(2003, 0)]) (ns := []) (v := .sc (.bool x7)) rfl rfl cl171 (ws_l9Has v0_0 e0.name x7 q8) rfl (.cons (lendL rfl (.head _) rfl strV_free strV_len) (.cons (.free rfl) .nil)) trivial memNil .nil (fun _ _ => List.not_mem_nil) rfl trivial memNil rfl rfl rfl rfl rfl rfl ?_
              refine s_of (st_not rfl rfl) rfl rfl rfl rfl ?_
              refine s_pickT rfl rfl (by conv => lhs; whnf) rfl rfl rfl ?_
              refine rt_nil ?_
              refine Exists.intro ⟨!x7, h⟩ ?_
              refine entX [((1, 0), ⟨83, 2, [[.sc (.string p0.apex), .lst 6 (List.map recV p0.l)]], false, true⟩, some (1, 0)), ((2003, 0), ⟨9, 1, List.map strV v0_0, false, true⟩, some (2003, 0)), ((5, 0), ⟨48, 6, [[.sc (.string e0.name), .sc (.int .i64 e0.ty), .sc (.int .i64 e0.ttl), .sc (.int .i64 e0.n), .sc (.string e0.host), .sc (.string e0.text)]], false, true⟩, some (5, 0))] [] ⟨⟨rfl, _, rfl, rfl, rfl, rfl, id, rowsCv_one (.cons (.free rfl) (.cons (.free rfl) .nil)), rowsZ_one rfl⟩, ⟨rfl, _, rfl, rfl, rfl, rfl, id, rowsCv_eq rfl (allFree_map strV_free), rowsZ_map strV_len⟩, ⟨rfl, _, rfl, rfl, rfl, rfl, id, rowsCv_one (.cons (.free rfl) (.cons (.free rfl) (.cons (.free rfl) (.cons (.free rfl) (.cons (.free rfl) (.cons (.free rfl) .nil)))))), rowsZ_one rfl⟩, trivial⟩ trivial rfl rfl ?_
              exact ⟨(.ptr rfl), (.ref rfl), (.free rfl), (.ptr rfl), (.free rfl), trivial⟩
            · replace h := cond_f h b6
              refine s_skip rfl rfl rfl ?_
              refine s_skip rfl rfl rfl ?_
              refine s_skip rfl rfl rfl ?_
              refine s_skip rfl rfl rfl ?_
              refine s_skip rfl rfl rfl ?_
              refine s_pickF rfl rfl (v := .sc (.bool false)) rfl rfl rfl rfl ?_
              refine rt_nil ?_
              refine Exists.intro ⟨false, h⟩ ?_
              refine entX [((1, 0), ⟨83, 2, [[.sc (.string p0.apex), .lst 6 (List.map recV p0.l)]], false, true⟩, some (1, 0)), ((2003, 0), ⟨9, 1, List.map strV v0_0, false, true⟩, some (2003, 0)), ((5, 0), ⟨48, 6, [[.sc (.string e0.name), .sc (.int .i64 e0.ty), .sc (.int .i64 e0.ttl), .sc (.int .i64 e0.n), .sc (.string e0.host), .sc (.string e0.text)]], false, true⟩, some (5, 0))] [] ⟨⟨rfl, _, rfl, rfl, rfl, rfl, id, rowsCv_one (.cons (.free rfl) (.cons (.free rfl) .nil)), rowsZ_one rfl⟩, ⟨rfl, _, rfl, rfl, rfl, rfl, id, rowsCv_eq rfl (allFree_map strV_free), rowsZ_map strV_len⟩, ⟨rfl, _, rfl, rfl, rfl, rfl, id, rowsCv_one (.cons (.free rfl) (.cons (.free rfl) (.cons (.free rfl) (.cons (.free rfl) (.cons (.free rfl) (.cons (.free rfl) .nil)))))), rowsZ_one rfl⟩, trivial⟩ trivial rfl rfl ?_
              exact ⟨(.ptr rfl), (.ref rfl), (.free rfl), (.ptr rfl), (.free rfl), trivial⟩
          · replace h := cond_f h b3
            refine s_skip rfl rfl rfl ?_
            refine s_skip rfl rfl rfl ?_
            refine s_skip rfl rfl rfl ?_
            refine s_skip rfl rfl rfl ?_
            refine s_skip rfl rfl rfl ?_
            refine s_pickF rfl rfl (v := .sc (.bool false)) rfl rfl rfl rfl ?_
            refine s_mv (.inl rfl) (by conv => lhs; whnf) rfl rfl rfl ?_
            refine s_skip rfl rfl rfl ?_
            refine s_skip rfl rfl rfl ?_
            refine s_skip rfl rfl rfl ?_
            refine s_skip rfl rfl rfl ?_
            refine s_skip rfl rfl rfl ?_
            refine s_pickF rfl rfl (v := .sc (.bool false)) rfl rfl rfl rfl ?_
            refine rt_nil ?_
            refine Exists.intro ⟨false, h⟩ ?_
            refine entX [((1, 0), ⟨83, 2, [[.sc (.string p0.apex), .lst 6 (List.map recV p0.l)]], false, true⟩, some (1, 0)), ((2003, 0), ⟨9, 1, List.map strV v0_0, false, true⟩, some (2003, 0)), ((5, 0), ⟨48, 6, [[.sc (.string e0.name), .sc (.int .i64 e0.ty), .sc (.int .i64 e0.ttl), .sc (.int .i64 e0.n), .sc (.string e0.host), .sc (.string e0.text)]], false, true⟩, some (5, 0))] [] ⟨⟨rfl, _, rfl, rfl, rfl, rfl, id, rowsCv_one (.cons (.free rfl) (.cons (.free rfl) .nil)), rowsZ_one rfl⟩, ⟨rfl, _, rfl, rfl, rfl, rfl, id, rowsCv_eq rfl (allFree_map strV_free), rowsZ_map strV_len⟩, ⟨rfl, _, rfl, rfl, rfl, rfl, id, rowsCv_one (.cons (.free rfl) (.cons (.free rfl) (.cons (.free rfl) (.cons (.free rfl) (.cons (.free rfl) (.cons (.free rfl) .nil)))))), rowsZ_one rfl⟩, trivial⟩ trivial rfl rfl ?_
            exact ⟨(.ptr rfl), (.ref rfl), (.free rfl), (.ptr rfl), (.free rfl), trivial⟩
        · replace h := cond_f h b2
          refine s_skip rfl rfl rfl ?_
          refine s_skip rfl rfl rfl ?_
          refine s_skip rfl rfl rfl ?_
          refine s_skip rfl rfl rfl ?_
          refine s_skip rfl rfl rfl ?_
          refine s_pickF rfl rfl (v := .sc (.bool false)) rfl rfl rfl rfl ?_
          refine s_mv (.inl rfl) (by conv => lhs; whnf) rfl rfl rfl ?_
          refine s_skip rfl rfl rfl ?_
          refine s_skip rfl rfl rfl ?_
          refine s_skip rfl rfl rfl ?_
          refine s_skip rfl rfl rfl ?_
          refine s_skip rfl rfl rfl ?_
          refine s_pickF rfl rfl (v := .sc (.bool false)) rfl rfl rfl rfl ?_
          refine s_mv (.inl rfl) (by conv => lhs; whnf) rfl rfl rfl ?_
          refine s_skip rfl rfl rfl ?_
          refine s_skip rfl rfl rfl ?_
          refine s_skip rfl rfl rfl ?_
          refine s_skip rfl rfl rfl ?_
          refine s_skip rfl rfl rfl ?_
          refine s_pickF rfl rfl (v := .sc (.bool false)) rfl rfl rfl rfl ?_
          refine rt_nil ?_
          refine Exists.intro ⟨false, h⟩ ?_
          refine entX [((1, 0), ⟨83, 2, [[.sc (.string p0.apex), .lst 6 (List.map recV p0.l)]], false, true⟩, some (1, 0)), ((2003, 0), ⟨9, 1, List.map strV v0_0, false, true⟩, some (2003, 0)), ((5, 0), ⟨48, 6, [[.sc (.string e0.name), .sc (.int .i64 e0.ty), .sc (.int .i64 e0.ttl), .sc (.int .i64 e0.n), .sc (.string e0.host), .sc (.string e0.text)]], false, true⟩, some (5, 0))] [] ⟨⟨rfl, _, rfl, rfl, rfl, rfl, id, rowsCv_one (.cons (.free rfl) (.cons (.free rfl) .nil)), rowsZ_one rfl⟩, ⟨rfl, _, rfl, rfl, rfl, rfl, id, rowsCv_eq rfl (allFree_map strV_free), rowsZ_map strV_len⟩, ⟨rfl, _, rfl, rfl, rfl, rfl, id, rowsCv_one (.cons (.free rfl) (.cons (.free rfl) (.cons (.free rfl) (.cons (.free rfl) (.cons (.free rfl) (.cons (.free rfl) .nil)))))), rowsZ_one rfl⟩, trivial⟩ trivial rfl rfl ?_
          exact ⟨(.ptr rfl), (.ref rfl), (.free rfl), (.ptr rfl), (.free rfl), trivial⟩
      · rintro ⟨j1_0, h⟩
        replace h : s_CutsOf_j1 v0_0 v0_1 e0 (s_CutsOf_l0 p0 rs0) j1_0 = some r0 := h
        unfold s_CutsOf_j1 at h
        show Tri _ _ _ (inv_s_CutsOf_1 p0 v0_0 v0_1 e0 j1_0)
        refine tri_cond rfl (fun c2 => ?_) (fun c2 => ?_)
        · replace h := cond_t h c2
          refine tri_region ?_
          refine s_mv (.inl rfl) (by conv => lhs; whnf) rfl rfl rfl ?_
          refine s_fieldAddr rfl rfl fd48_0 rfl rfl rfl rfl ?_
          refine s_load rfl rfl rfl rfl ty9 rfl (.inr rfl) (by conv => lhs; whnf) rfl rfl rfl ?_
          refine s_buildSlice (rows' := List.map strV [e0.name]) rfl rfl rfl sl112 zc9 rfl rfl rfl rfl rfl rfl rfl rfl rfl ?_
          refine grd_elim h fun g3 h => ?_
          refine s_appL rfl rfl rfl sl112 zc9 rfl rfl rfl rfl rfl rfl (src_refL rfl rfl) g3 rfl rfl ?_
          refine s_mv (.inr rfl) (by conv => lhs; whnf) rfl rfl rfl ?_
          refine rt_nil ?_
          refine tri_region ?_
          refine s_mv (.inl rfl) (by conv => lhs; whnf) rfl rfl rfl ?_
          refine s_inc (a := v0_1) (b := 1) rfl rfl rfl rfl (by have := get_lt hx0; have := hl0; omega) rfl rfl rfl ?_
          refine s_mv (.inr rfl) (by conv => lhs; whnf) rfl rfl rfl ?_
          refine rt_nil ?_
          refine Exists.intro ⟨(rs0, v0_0 ++ [e0.name], (v0_1 + 1)), hn0, h⟩ (And.intro (Nat.lt_succ_self _) ?_)
          refine entX [((1, 0), ⟨83, 2, [[.sc (.string p0.apex), .lst 6 (List.map recV p0.l)]], false, true⟩, some (1, 0)), ((2003, 0), ⟨9, 1, List.map strV (v0_0 ++ [e0.name]), false, true⟩, some (47, 0))] [] ⟨⟨rfl, _, rfl, rfl, rfl, rfl, id, rowsCv_one (.cons (.free rfl) (.cons (.free rfl) .nil)), rowsZ_one rfl⟩, ⟨rfl, _, rfl, rfl, rfl, rfl, id, rowsCv_eq rfl (allFree_map strV_free), rowsZ_map strV_len⟩, trivial⟩ trivial rfl rfl ?_
          exact ⟨(.ptr rfl), (.ref rfl), (.free rfl), trivial⟩
        · replace h := cond_f h c2
          refine tri_skip ?_
          refine tri_region ?_
          refine s_mv (.inl rfl) (by conv => lhs; whnf) rfl rfl rfl ?_
          refine s_inc (a := v0_1) (b := 1) rfl rfl rfl rfl (by have := get_lt hx0; have := hl0; omega) rfl rfl rfl ?_
          refine s_mv (.inr rfl) (by conv => lhs; whnf) rfl rfl rfl ?_
          refine rt_nil ?_
          refine Exists.intro ⟨(rs0, v0_0, (v0_1 + 1)), hn0, h⟩ (And.intro (Nat.lt_succ_self _) ?_)
          refine entX [((1, 0), ⟨83, 2, [[.sc (.string p0.apex), .lst 6 (List.map recV p0.l)]], false, true⟩, some (1, 0)), ((2003, 0), ⟨9, 1, List.map strV v0_0, false, true⟩, some (2003, 0))] [] ⟨⟨rfl, _, rfl, rfl, rfl, rfl, id, rowsCv_one (.cons (.free rfl) (.cons (.free rfl) .nil)), rowsZ_one rfl⟩, ⟨rfl, _, rfl, rfl, rfl, rfl, id, rowsCv_eq rfl (allFree_map strV_free), rowsZ_map strV_len⟩, trivial⟩ trivial rfl rfl ?_
          exact ⟨(.ptr rfl), (.ref rfl), (.free rfl), trivial⟩
    · have he := drop_f hd0 c1; subst he
      rw [s_CutsOf_l0] at h
      refine tri_exit ?_
      refine tri_seq ?_
      refine tri_region ?_
      refine s_mv (.inl rfl) (by conv => lhs; whnf) rfl rfl rfl ?_
      refine s_mv (.inr rfl) (by conv => lhs; whnf) rfl rfl rfl ?_
      refine rt_nil ?_
      refine tri_ret ?_
      have e0 := (some1 h); subst e0
      exact endY (v' := .ref (2000, 0) 0 v0_0.length) [((2000, 0), ⟨9, 1, List.map strV v0_0, false, true⟩, some (2003, 0))] [] (rvC (resTmp rfl) rvN) ⟨⟨rfl, _, rfl, rfl, rfl, rfl, id, rowsCv_eq rfl (allFree_map strV_free), rowsZ_map strV_len⟩, trivial⟩ trivial rfl rfl (by kernel_rfl) (by first | (simp only [V.mat, V.mat1, V.mat0, matL, matT, List.length_map]; done) | (simp only [V.mat, V.mat1, V.mat0, matL, matT, List.length_map]; rfl)) (.ref rfl)

/- spec.CutOf -/
def inv_s_CutOf_0 (p1 : ByteArray) (x1 : List ByteArray) (v0_0 : Nat) : St := mkT 26 [(1, .sc (.string p1)), (6, .ref (9, 0) 0 x1.length), (7, .sc (.int .i64 (v0_0 : Int)))] [((9, 0), some ⟨9, 1, List.map strV x1, false, true⟩)]
set_option maxRecDepth 4000 in
set_option maxHeartbeats 800000 in
theorem ws_CutOf (p0 : MZone) (p1 : ByteArray) (r0 : ByteArray) (r1 : Bool) (h : s_CutOf p0 p1 = some (r0, r1)) : Runs Tryz.prog 99 [.agg (mZoneV p0), .sc (.string p1)] [] (.tup [.sc (.string r0), .sc (.bool r1)]) [] := by
  unfold s_CutOf at h
  refine runsR [.tmp 4, .tmp 5] Tryz.func99 rfl rfl rfl rfl ?_
  rw [Tryz.ntmps99]
  refine tri_seq ?_
  refine tri_region ?_
  refine s_box rfl rfl rfl rfl rfl rfl rfl ?_
  refine s_mv (.inr rfl) (v := .sc (.string (⟨#[]⟩ : ByteArray))) rfl rfl rfl rfl ?_
  refine s_mv (.inr rfl) (v := .sc (.bool false)) rfl rfl rfl rfl ?_
  refine rt_nil ?_
  refine tri_seq ?_
  refine tri_region ?_
  refine s_loadR rfl rfl rfl rfl ty83 rfl rfl rfl ?_
  refine bnd1_elim h fun x1 q2 h => ?_
  refine s_callN (kb := []) (ns := []) (v := .ref (9, 0) 0 x1.length) rfl rfl cl145 (ws_CutsOf p0 x1 q2) rfl (.cons (relAgg rfl) .nil) trivial memNil .nil memNil rfl ⟨(allSc_map strV_sc), trivial⟩ memNil rfl (by first | (simp only [V.mat, V.mat1, V.mat0, matL, matT, List.length_map]; done) | (simp only [V.mat, V.mat1, V.mat0, matL, matT, List.length_map]; rfl)) rfl rfl rfl rfl ?_
  refine s_mv (.inr rfl) (by conv => lhs; whnf) rfl rfl rfl ?_
  refine rt_nil ?_
  refine tri_seq ?_
  refine tri_seq ?_
  refine tri_region ?_
  refine s_mv (.inr rfl) (v := .sc (.int .i64 0)) rfl rfl rfl rfl ?_
  refine rt_nil ?_
  refine tri_block ?_
  refine tri_ownM (9, 0) rfl (fun hl0 => ?_)
  refine tri_loop (ι := { p : (List ByteArray) × Nat // x1.drop p.2 = p.1 ∧ s_CutOf_l0 p1 p.1 p.2 = some (r0, r1) }) (fun p => inv_s_CutOf_0 p1 x1 p.1.2) (fun p => p.1.1.length) ⟨(x1, 0), rfl, h⟩ ?_ ?_
  · skip
    refine entX [((9, 0), ⟨9, 1, List.map strV x1, false, true⟩, some (9, 0))] [] ⟨⟨rfl, _, rfl, rfl, rfl, rfl, id, rowsCv_eq rfl (allFree_map strV_free), rowsZ_map strV_len⟩, trivial⟩ trivial rfl rfl ?_
    exact ⟨(.free rfl), (.ref rfl), (.free rfl), trivial⟩
  · rintro ⟨⟨lrs0, v0_0⟩, hd0, h⟩
    replace hd0 : x1.drop v0_0 = lrs0 := hd0
    replace h : s_CutOf_l0 p1 lrs0 v0_0 = some (r0, r1) := h
    show Tri _ _ _ (inv_s_CutOf_0 p1 x1 v0_0)
    refine tri_seq ?_
    refine tri_seq ?_
    refine tri_region ?_
    refine s_mv (.inl rfl) (by conv => lhs; whnf) rfl rfl rfl ?_
    refine s_mv (.inl rfl) (by conv => lhs; whnf) rfl rfl rfl ?_
    refine s_len (m := x1.length) rfl sl112 rfl rfl rfl rfl ?_
    refine s_of (st_lss rfl rfl rfl) rfl rfl rfl rfl ?_
    refine rt_nil ?_
    refine tri_cond rfl (fun c3 => ?_) (fun c3 => ?_)
    · refine drop_elim hd0 c3 fun e0 rs0 he hx0 hn0 => ?_
      subst he
      rw [s_CutOf_l0] at h
      refine tri_skip ?_
      refine tri_seq ?_
      refine tri_block ?_
      refine tri_seq ?_
      refine tri_region ?_
      refine s_mv (.inl rfl) (by conv => lhs; whnf) rfl rfl rfl ?_
      refine s_mv (.inl rfl) (by conv => lhs; whnf) rfl rfl rfl ?_
      refine s_mv (.inl rfl) (by conv => lhs; whnf) rfl rfl rfl ?_
      refine s_index0 (i := v0_0) rfl rfl rfl rfl sl112 rfl (get_lt hx0) rfl rfl rfl ?_
      refine s_load rfl rfl rfl (rowG hx0) ty9 rfl (.inr rfl) (by conv => lhs; whnf) rfl rfl rfl ?_
      refine bnd1_elim h fun x4 q5 h => ?_
      refine s_callN (kb := []) (ns := []) (v := .sc (.bool x4)) rfl rfl cl97 (ws_Under p1 e0 x4 q5) rfl (.cons (.free rfl) (.cons (.free rfl) .nil)) trivial memNil .nil memNil rfl trivial memNil rfl rfl rfl rfl rfl rfl ?_
      refine rt_nil ?_
      refine tri_cond rfl (fun c6 => ?_) (fun c6 => ?_)
      · replace h := cond_t h c6
        refine tri_seq ?_
        refine tri_region ?_
        refine s_mv (.inl rfl) (by conv => lhs; whnf) rfl rfl rfl ?_
        refine s_mv (.inl rfl) (by conv => lhs; whnf) rfl rfl rfl ?_
        refine s_index0 (i := v0_0) rfl rfl rfl rfl sl112 rfl (get_lt hx0) rfl rfl rfl ?_
        refine s_load rfl rfl rfl (rowG hx0) ty9 rfl (.inr rfl) (by conv => lhs; whnf) rfl rfl rfl ?_
        refine s_mv (.inr rfl) (by conv => lhs; whnf) rfl rfl rfl ?_
        refine s_mv (.inr rfl) (v := .sc (.bool true)) rfl rfl rfl rfl ?_
        refine rt_nil ?_
        refine tri_ret ?_
        have e0 := (some2 h).1; have e1 := (some2 h).2; subst e0; subst e1
        exact endY [] [] (rvC (resTmp rfl) (rvC (resTmp rfl) rvN)) trivial trivial rfl rfl rfl rfl (CvL.tup (.cons (.free rfl) (.cons (.free rfl) .nil)))
      · replace h := cond_f h c6
        refine tri_skip ?_
        refine tri_region ?_
        refine s_mv (.inl rfl) (by conv => lhs; whnf) rfl rfl rfl ?_
        refine s_inc (a := v0_0) (b := 1) rfl rfl rfl rfl (by have := get_lt hx0; have := hl0; omega) rfl rfl rfl ?_
        refine s_mv (.inr rfl) (by conv => lhs; whnf) rfl rfl rfl ?_
        refine rt_nil ?_
        refine Exists.intro ⟨(rs0, (v0_0 + 1)), hn0, h⟩ (And.intro (Nat.lt_succ_self _) ?_)
        refine entX [((9, 0), ⟨9, 1, List.map strV x1, false, true⟩, some (9, 0))] [] ⟨⟨rfl, _, rfl, rfl, rfl, rfl, id, rowsCv_eq rfl (allFree_map strV_free), rowsZ_map strV_len⟩, trivial⟩ trivial rfl rfl ?_
        exact ⟨(.free rfl), (.ref rfl), (.free rfl), trivial⟩
    · have he := drop_f hd0 c3; subst he
      rw [s_CutOf_l0] at h
      refine tri_exit ?_
      refine tri_seq ?_
      refine tri_region ?_
      refine s_mv (.inr rfl) (v := .sc (.string (⟨#[]⟩ : ByteArray))) rfl rfl rfl rfl ?_
      refine s_mv (.inr rfl) (v := .sc (.bool false)) rfl rfl rfl rfl ?_
      refine rt_nil ?_
      refine tri_ret ?_
      have e0 := (some2 h).1; have e1 := (some2 h).2; subst e0; subst e1
      exact endY [] [] (rvC (resTmp rfl) (rvC (resTmp rfl) rvN)) trivial trivial rfl rfl rfl rfl (CvL.tup (.cons (.free rfl) (.cons (.free rfl) .nil)))

/- spec.SetOf -/
def inv_s_SetOf_1 (p0 : List Rec) (p1 : ByteArray) (p2 : Int) (v0_0 : List Rec) (v0_1 : Nat) (j1_0 : Bool) : St := mkT 40 [(0, .lst 6 (List.map recV p0)), (1, .sc (.string p1)), (2, .sc (.int .i64 p2)), (7, .ref (2007, 0) 0 v0_0.length), (8, .sc (.int .i64 (v0_1 : Int))), (31, .sc (.bool j1_0))] [((2007, 0), some ⟨48, 6, List.map recV v0_0, false, true⟩)]
def inv_s_SetOf_0 (p0 : List Rec) (p1 : ByteArray) (p2 : Int) (v0_0 : List Rec) (v0_1 : Nat) : St := mkT 40 [(0, .lst 6 (List.map recV p0)), (1, .sc (.string p1)), (2, .sc (.int .i64 p2)), (7, .ref (2007, 0) 0 v0_0.length), (8, .sc (.int .i64 (v0_1 : Int)))] [((2007, 0), some ⟨48, 6, List.map recV v0_0, false, true⟩)]
set_option maxRecDepth 4000 in
set_option maxHeartbeats 800000 in
theorem ws_SetOf (p0 : List Rec) (p1 : ByteArray) (p2 : Int) (r0 : List Rec) (h : s_SetOf p0 p1 p2 = some r0) : Runs Tryz.prog 100 [.lst 6 (List.map recV p0), .sc (.string p1), .sc (.int .i64 p2)] [] (.own 48 6 (List.map recV r0)) [] := by
  unfold s_SetOf at h
  refine runsR [.tmp 6] Tryz.func100 rfl rfl rfl rfl ?_
  rw [Tryz.ntmps100]
  refine tri_seq ?_
  refine tri_region ?_
  refine s_mv (.inr rfl) (v := .nils) rfl rfl rfl rfl ?_
  refine rt_nil ?_
  refine tri_seq ?_
  refine tri_region ?_
  refine s_buildSlice (rows' := List.map recV ([] : List Rec)) rfl rfl rfl sl24 zc48 rfl rfl rfl rfl rfl rfl rfl rfl rfl ?_
  refine s_mv (.inr rfl) (by conv => lhs; whnf) rfl rfl rfl ?_
  refine rt_nil ?_
  refine tri_seq ?_
  refine tri_seq ?_
  refine tri_region ?_
  refine s_mv (.inr rfl) (v := .sc (.int .i64 0)) rfl rfl rfl rfl ?_
  refine rt_nil ?_
  refine tri_block ?_
  refine tri_lstM 0 rfl (fun hl0 => ?_)
  refine tri_loop (ι := { p : (List Rec) × (List Rec) × Nat // p0.drop p.2.2 = p.1 ∧ s_SetOf_l0 p1 p2 p.1 p.2.1 p.2.2 = some r0 }) (fun p => inv_s_SetOf_0 p0 p1 p2 p.1.2.1 p.1.2.2) (fun p => p.1.1.length) ⟨(p0, ([] : List Rec), 0), rfl, h⟩ ?_ ?_
  · skip
    refine entX [((2007, 0), ⟨48, 6, List.map recV ([] : List Rec), false, true⟩, some (9, 0))] [] ⟨⟨rfl, _, rfl, rfl, rfl, rfl, id, rowsCv_eq rfl (allFree_map recV_free), rowsZ_map recV_len⟩, trivial⟩ trivial rfl rfl ?_
    exact ⟨(.free rfl), (.free rfl), (.free rfl), (.ref rfl), (.free rfl), trivial⟩
  · rintro ⟨⟨lrs0, v0_0, v0_1⟩, hd0, h⟩
    replace hd0 : p0.drop v0_1 = lrs0 := hd0
    replace h : s_SetOf_l0 p1 p2 lrs0 v0_0 v0_1 = some r0 := h
    show Tri _ _ _ (inv_s_SetOf_0 p0 p1 p2 v0_0 v0_1)
    refine tri_seq ?_
    refine tri_seq ?_
    refine tri_region ?_
    refine s_mv (.inl rfl) (by conv => lhs; whnf) rfl rfl rfl ?_
    refine s_mv (.inl rfl) (by conv => lhs; whnf) rfl rfl rfl ?_
    refine s_lenL rfl sl24 rfl rfl rfl rfl ?_
    refine s_of (st_lss rfl rfl rfl) rfl rfl rfl rfl ?_
    refine rt_nil ?_
    refine tri_cond rfl (fun c1 => ?_) (fun c1 => ?_)
    · refine drop_elim hd0 c1 fun e0 rs0 he hx0 hn0 => ?_
      subst he
      rw [s_SetOf_l0] at h
      refine tri_skip ?_
      refine tri_seq ?_
      refine tri_block ?_
      refine tri_cutI (ι := { p : Bool // s_SetOf_j1 v0_0 v0_1 e0 (s_SetOf_l0 p1 p2 rs0) p = some r0 }) (fun p => inv_s_SetOf_1 p0 p1 p2 v0_0 v0_1 p.1) ?_ ?_
      · skip
        refine tri_region ?_
        refine s_mv (.inl rfl) (by conv => lhs; whnf) rfl rfl rfl ?_
        refine s_mv (.inl rfl) (by conv => lhs; whnf) rfl rfl rfl ?_
        refine s_indexF (i := v0_1) rfl rfl rfl sl24 (get_ltM hx0) rfl rfl rfl ?_
        refine s_fieldAddrF rfl rfl fd48_0 rfl rfl rfl rfl ?_
        refine s_loadF rfl rfl (rowG hx0) ty9 rfl (.inr rfl) (by conv => lhs; whnf) rfl rfl rfl ?_
        refine s_mv (.inl rfl) (by conv => lhs; whnf) rfl rfl rfl ?_
        refine s_of (st_eqS rfl rfl rfl) rfl rfl rfl rfl ?_
        refine s_mv (.inl rfl) (by conv => lhs; whnf) rfl rfl rfl ?_
        refine s_split (t := 23) rfl (fun b2 => ?_) (fun b2 => ?_)
        · replace h := cond_t h b2
          refine s_mv (.inl rfl) (by conv => lhs; whnf) rfl rfl rfl ?_
          refine s_mv (.inl rfl) (by conv => lhs; whnf) rfl rfl rfl ?_
          refine s_indexF (i := v0_1) rfl rfl rfl sl24 (get_ltM hx0) rfl rfl rfl ?_
          refine s_fieldAddrF rfl rfl fd48_1 rfl rfl rfl rfl ?_
          refine s_loadF rfl rfl (rowG hx0) ty3 rfl (.inr rfl) (by conv => lhs; whnf) rfl rfl rfl ?_
          refine s_mv (.inl rfl) (by conv => lhs; whnf) rfl rfl rfl ?_
          refine s_of (st_eqI rfl rfl rfl) rfl rfl rfl rfl ?_
          refine s_pickT rfl rfl (by conv => lhs; whnf) rfl rfl rfl ?_
          refine rt_nil ?_
          refine Exists.intro ⟨decide (e0.ty = p2), h⟩ ?_
          refine entX [((2007, 0), ⟨48, 6, List.map recV v0_0, false, true⟩, some (2007, 0))] [] ⟨⟨rfl, _, rfl, rfl, rfl, rfl, id, rowsCv_eq rfl (allFree_map recV_free), rowsZ_map recV_len⟩, trivial⟩ trivial rfl rfl ?_
          exact ⟨(.free rfl), (.free rfl), (.free rfl), (.ref rfl), (.free rfl), (.free rfl), trivial⟩
        · replace h := cond_f h b2
          refine s_skip rfl rfl rfl ?_
          refine s_skip rfl rfl rfl ?_
          refine s_skip rfl rfl rfl ?_
          refine s_skip rfl rfl rfl ?_
          refine s_skip rfl rfl rfl ?_
          refine s_skip rfl rfl rfl ?_
          refine s_skip rfl rfl rfl ?_
          refine s_pickF rfl rfl (v := .sc (.bool false)) rfl rfl rfl rfl ?_
          refine rt_nil ?_
          refine Exists.intro ⟨false, h⟩ ?_
          refine entX [((2007, 0), ⟨48, 6, List.map recV v0_0, false, true⟩, some (2007, 0))] [] ⟨⟨rfl, _, rfl, rfl, rfl, rfl, id, rowsCv_eq rfl (allFree_map recV_free), rowsZ_map recV_len⟩, trivial⟩ trivial rfl rfl ?_
          exact ⟨(.free rfl), (.free rfl), (.free rfl), (.ref rfl), (.free rfl), (.free rfl), trivial⟩
      · rintro ⟨j1_0, h⟩
        replace h : s_SetOf_j1 v0_0 v0_1 e0 (s_SetOf_l0 p1 p2 rs0) j1_0 = some r0 := h
        unfold s_SetOf_j1 at h
        show Tri _ _ _ (inv_s_SetOf_1 p0 p1 p2 v0_0 v0_1 j1_0)
        refine tri_cond rfl (fun c2 => ?_) (fun c2 => ?_)
        · replace h := cond_t h c2
          refine tri_region ?_
          refine s_mv (.inl rfl) (by conv => lhs; whnf) rfl rfl rfl ?_
          refine s_mv (.inl rfl) (by conv => lhs; whnf) rfl rfl rfl ?_
          refine s_mv (.inl rfl) (by conv => lhs; whnf) rfl rfl rfl ?_
          refine s_indexF (i := v0_1) rfl rfl rfl sl24 (get_ltM hx0) rfl rfl rfl ?_
          refine s_loadFR rfl rfl (rowG hx0) ty48 rfl rfl rfl ?_
          refine s_buildSlice (rows' := List.map recV [e0]) rfl rfl rfl sl24 zc48 rfl rfl rfl rfl rfl rfl rfl rfl rfl ?_
          refine grd_elim h fun g3 h => ?_
          refine s_appL rfl rfl rfl sl24 zc48 rfl rfl rfl rfl rfl rfl (src_refL rfl rfl) g3 rfl rfl ?_
          refine s_mv (.inr rfl) (by conv => lhs; whnf) rfl rfl rfl ?_
          refine rt_nil ?_
          refine tri_region ?_
          refine s_mv (.inl rfl) (by conv => lhs; whnf) rfl rfl rfl ?_
          refine s_inc (a := v0_1) (b := 1) rfl rfl rfl rfl (by have := get_lt hx0; have := hl0; omega) rfl rfl rfl ?_
          refine s_mv (.inr rfl) (by conv => lhs; whnf) rfl rfl rfl ?_
          refine rt_nil ?_
          refine Exists.intro ⟨(rs0, v0_0 ++ [e0], (v0_1 + 1)), hn0, h⟩ (And.intro (Nat.lt_succ_self _) ?_)
          refine entX [((2007, 0), ⟨48, 6, List.map recV (v0_0 ++ [e0]), false, true⟩, some (38, 0))] [] ⟨⟨rfl, _, rfl, rfl, rfl, rfl, id, rowsCv_eq rfl (allFree_map recV_free), rowsZ_map recV_len⟩, trivial⟩ trivial rfl rfl ?_
          exact ⟨(.free rfl), (.free rfl), (.free rfl), (.ref rfl), (.free rfl), trivial⟩
        · replace h := cond_f h c2
          refine tri_skip ?_
          refine tri_region ?_
          refine s_mv (.inl rfl) (by conv => lhs; whnf) rfl rfl rfl ?_
          refine s_inc (a := v0_1) (b := 1) rfl rfl rfl rfl (by have := get_lt hx0; have := hl0; omega) rfl rfl rfl ?_
          refine s_mv (.inr rfl) (by conv => lhs; whnf) rfl rfl rfl ?_
          refine rt_nil ?_
          refine Exists.intro ⟨(rs0, v0_0, (v0_1 + 1)), hn0, h⟩ (And.intro (Nat.lt_succ_self _) ?_)
          refine entX [((2007, 0), ⟨48, 6, List.map recV v0_0, false, true⟩, some (2007, 0))] [] ⟨⟨rfl, _, rfl, rfl, rfl, rfl, id, rowsCv_eq rfl (allFree_map recV_free), rowsZ_map recV_len⟩, trivial⟩ trivial rfl rfl ?_
          exact ⟨(.free rfl), (.free rfl), (.free rfl), (.ref rfl), (.free rfl), trivial⟩
    · have he := drop_f hd0 c1; subst he
      rw [s_SetOf_l0] at h
      refine tri_exit ?_
      refine tri_seq ?_
      refine tri_region ?_
      refine s_mv (.inl rfl) (by conv => lhs; whnf) rfl rfl rfl ?_
      refine s_mv (.inr rfl) (by conv => lhs; whnf) rfl rfl rfl ?_
      refine rt_nil ?_
      refine tri_ret ?_
      have e0 := (some1 h); subst e0
      exact endY (v' := .ref (2000, 0) 0 v0_0.length) [((2000, 0), ⟨48, 6, List.map recV v0_0, false, true⟩, some (2007, 0))] [] (rvC (resTmp rfl) rvN) ⟨⟨rfl, _, rfl, rfl, rfl, rfl, id, rowsCv_eq rfl (allFree_map recV_free), rowsZ_map recV_len⟩, trivial⟩ trivial rfl rfl (by kernel_rfl) (by first | (simp only [V.mat, V.mat1, V.mat0, matL, matT, List.length_map]; done) | (simp only [V.mat, V.mat1, V.mat0, matL, matT, List.length_map]; rfl)) (.ref rfl)

/- spec.Exists -/
def inv_s_Exists_0 (p0 : MZone) (p1 : ByteArray) (v0_0 : Nat) : St := mkT 21 [(1, .sc (.string p1)), (2, .ptr (2, 0) 0 0), (5, .sc (.int .i64 (v0_0 : Int)))] [((2, 0), some ⟨83, 2, [[.sc (.string p0.apex), .lst 6 (List.map recV p0.l)]], false, true⟩)]
set_option maxRecDepth 4000 in
set_option maxHeartbeats 800000 in
theorem ws_Exists (p0 : MZone) (p1 : ByteArray) (r0 : Bool) (h : s_Exists p0 p1 = some r0) : Runs Tryz.prog 101 [.agg (mZoneV p0), .sc (.string p1)] [] (.sc (.bool r0)) [] := by
  unfold s_Exists at h
  refine runsR [.tmp 4] Tryz.func101 rfl rfl rfl rfl ?_
  rw [Tryz.ntmps101]
  refine tri_seq ?_
  refine tri_region ?_
  refine s_box rfl rfl rfl rfl rfl rfl rfl ?_
  refine s_mv (.inr rfl) (v := .sc (.bool false)) rfl rfl rfl rfl ?_
  refine rt_nil ?_
  refine tri_seq ?_
  refine tri_seq ?_
  refine tri_region ?_
  refine s_mv (.inr rfl) (v := .sc (.int .i64 0)) rfl rfl rfl rfl ?_
  refine rt_nil ?_
  refine tri_block ?_
  refine tri_aggM 0 1 rfl rfl (fun hl0 => ?_)
  refine tri_loop (ι := { p : (List Rec) × Nat // p0.l.drop p.2 = p.1 ∧ s_Exists_l0 p1 p.1 p.2 = some r0 }) (fun p => inv_s_Exists_0 p0 p1 p.1.2) (fun p => p.1.1.length) ⟨(p0.l, 0), rfl, h⟩ ?_ ?_
  · skip
    refine entX [((2, 0), ⟨83, 2, [[.sc (.string p0.apex), .lst 6 (List.map recV p0.l)]], false, true⟩, some (2, 0))] [] ⟨⟨rfl, _, rfl, rfl, rfl, rfl, id, rowsCv_one (.cons (.free rfl) (.cons (.free rfl) .nil)), rowsZ_one rfl⟩, trivial⟩ trivial rfl rfl ?_
    exact ⟨(.free rfl), (.ptr rfl), (.free rfl), trivial⟩
  · rintro ⟨⟨lrs0, v0_0⟩, hd0, h⟩
    replace hd0 : p0.l.drop v0_0 = lrs0 := hd0
    replace h : s_Exists_l0 p1 lrs0 v0_0 = some r0 := h
    show Tri _ _ _ (inv_s_Exists_0 p0 p1 v0_0)
    refine tri_seq ?_
    refine tri_seq ?_
    refine tri_region ?_
    refine s_mv (.inl rfl) (by conv => lhs; whnf) rfl rfl rfl ?_
    refine s_fieldAddr rfl rfl fd83_1 rfl rfl rfl rfl ?_
    refine s_load rfl rfl rfl rfl ty24 rfl (.inr rfl) (by conv => lhs; whnf) rfl rfl rfl ?_
    refine s_lenL rfl sl24 rfl rfl rfl rfl ?_
    refine s_of (st_lss rfl rfl rfl) rfl rfl rfl rfl ?_
    refine rt_nil ?_
    refine tri_cond rfl (fun c1 => ?_) (fun c1 => ?_)
    · refine drop_elim hd0 c1 fun e0 rs0 he hx0 hn0 => ?_
      subst he
      rw [s_Exists_l0] at h
      refine tri_skip ?_
      refine tri_seq ?_
      refine tri_block ?_
      refine tri_seq ?_
      refine tri_region ?_
      refine s_fieldAddr rfl rfl fd83_1 rfl rfl rfl rfl ?_
      refine s_load rfl rfl rfl rfl ty24 rfl (.inr rfl) (by conv => lhs; whnf) rfl rfl rfl ?_
      refine s_mv (.inl rfl) (by conv => lhs; whnf) rfl rfl rfl ?_
      refine s_indexF (i := v0_0) rfl rfl rfl sl24 (get_ltM hx0) rfl rfl rfl ?_
      refine s_fieldAddrF rfl rfl fd48_0 rfl rfl rfl rfl ?_
      refine s_loadF rfl rfl (rowG hx0) ty9 rfl (.inr rfl) (by conv => lhs; whnf) rfl rfl rfl ?_
      refine s_mv (.inl rfl) (by conv => lhs; whnf) rfl rfl rfl ?_
      refine bnd1_elim h fun x2 q3 h => ?_
      refine s_callN (kb := []) (ns := []) (v := .sc (.bool x2)) rfl rfl cl97 (ws_Under e0.name p1 x2 q3) rfl (.cons (.free rfl) (.cons (.free rfl) .nil)) trivial memNil .nil memNil rfl trivial memNil rfl rfl rfl rfl rfl rfl ?_
      refine rt_nil ?_
      refine tri_cond rfl (fun c4 => ?_) (fun c4 => ?_)
      · replace h := cond_t h c4
        refine tri_seq ?_
        refine tri_region ?_
        refine s_mv (.inr rfl) (v := .sc (.bool true)) rfl rfl rfl rfl ?_
        refine rt_nil ?_
        refine tri_ret ?_
        have e0 := (some1 h); subst e0
        exact endY [] [] (rvC (resTmp rfl) rvN) trivial trivial rfl rfl rfl rfl (.free rfl)
      · replace h := cond_f h c4
        refine tri_skip ?_
        refine tri_region ?_
        refine s_mv (.inl rfl) (by conv => lhs; whnf) rfl rfl rfl ?_
        refine s_inc (a := v0_0) (b := 1) rfl rfl rfl rfl (by have := get_lt hx0; have := hl0; omega) rfl rfl rfl ?_
        refine s_mv (.inr rfl) (by conv => lhs; whnf) rfl rfl rfl ?_
        refine rt_nil ?_
        refine Exists.intro ⟨(rs0, (v0_0 + 1)), hn0, h⟩ (And.intro (Nat.lt_succ_self _) ?_)
        refine entX [((2, 0), ⟨83, 2, [[.sc (.string p0.apex), .lst 6 (List.map recV p0.l)]], false, true⟩, some (2, 0))] [] ⟨⟨rfl, _, rfl, rfl, rfl, rfl, id, rowsCv_one (.cons (.free rfl) (.cons (.free rfl) .nil)), rowsZ_one rfl⟩, trivial⟩ trivial rfl rfl ?_
        exact ⟨(.free rfl), (.ptr rfl), (.free rfl), trivial⟩
    · have he := drop_f hd0 c1; subst he
      rw [s_Exists_l0] at h
      refine tri_exit ?_
      refine tri_seq ?_
      refine tri_region ?_
      refine s_mv (.inr rfl) (v := .sc (.bool false)) rfl rfl rfl rfl ?_
      refine rt_nil ?_
      refine tri_ret ?_
      have e0 := (some1 h); subst e0
      exact endY [] [] (rvC (resTmp rfl) rvN) trivial trivial rfl rfl rfl rfl (.free rfl)

/- spec.KindIn -/
def inv_s_KindIn_0 (p0 : MZone) (p1 : Quest) (j0_0 : Bool) : St := mkT 51 [(2, .ptr (2, 0) 0 0), (3, .ptr (3, 0) 0 0), (23, .sc (.bool j0_0))] [((2, 0), some ⟨83, 2, [[.sc (.string p0.apex), .lst 6 (List.map recV p0.l)]], false, true⟩), ((3, 0), some ⟨36, 2, [[.sc (.string p1.name), .sc (.int .i64 p1.ty)]], false, true⟩)]
set_option maxRecDepth 4000 in
set_option maxHeartbeats 800000 in
theorem ws_KindIn (p0 : MZone) (p1 : Quest) (r0 : Int) (h : s_KindIn p0 p1 = some r0) : Runs Tryz.prog 49 [.agg (mZoneV p0), .agg (questV p1)] [] (.sc (.int .i64 r0)) [] := by
  unfold s_KindIn at h
  refine runsR [.tmp 4] Tryz.func49 rfl rfl rfl rfl ?_
  rw [Tryz.ntmps49]
  refine tri_seq ?_
  refine tri_region ?_
  refine s_box rfl rfl rfl rfl rfl rfl rfl ?_
  refine s_box rfl rfl rfl rfl rfl rfl rfl ?_
  refine s_mv (.inr rfl) (v := .sc (.int .i64 0)) rfl rfl rfl rfl ?_
  refine rt_nil ?_
  refine tri_seq ?_
  refine tri_region ?_
  refine s_loadR rfl rfl rfl rfl ty83 rfl rfl rfl ?_
  refine s_fieldAddr rfl rfl fd36_0 rfl rfl rfl rfl ?_
  refine s_load rfl rfl rfl rfl ty9 rfl (.inr rfl) (by conv => lhs; whnf) rfl rfl rfl ?_
  refine bnd2_elim h fun x1 x2 q3 h => ?_
  refine s_callN (kb := []) (ns := []) (v := .tup [.sc (.string x1), .sc (.bool x2)]) rfl rfl cl99 (ws_CutOf p0 p1.name x1 x2 q3) rfl (.cons (relAgg rfl) (.cons (.free rfl) .nil)) trivial memNil .nil memNil rfl trivial memNil rfl rfl rfl rfl rfl rfl ?_
  refine s_mv (.inl rfl) (by conv => lhs; whnf) rfl rfl rfl ?_
  refine s_extract rfl rfl rfl rfl rfl rfl ?_
  refine s_extract rfl rfl rfl rfl rfl rfl ?_
  refine s_mv (.inr rfl) (by conv => lhs; whnf) rfl rfl rfl ?_
  refine s_mv (.inr rfl) (by conv => lhs; whnf) rfl rfl rfl ?_
  refine rt_nil ?_
  refine tri_seq ?_
  refine tri_block ?_
  refine tri_seq ?_
  refine tri_region ?_
  refine s_fieldAddr rfl rfl fd36_0 rfl rfl rfl rfl ?_
  refine s_load rfl rfl rfl rfl ty9 rfl (.inr rfl) (by conv => lhs; whnf) rfl rfl rfl ?_
  refine s_fieldAddr rfl rfl fd83_0 rfl rfl rfl rfl ?_
  refine s_load rfl rfl rfl rfl ty9 rfl (.inr rfl) (by conv => lhs; whnf) rfl rfl rfl ?_
  refine bnd1_elim h fun x4 q5 h => ?_
  refine s_callN (kb := []) (ns := []) (v := .sc (.bool x4)) rfl rfl cl97 (ws_Under p1.name p0.apex x4 q5) rfl (.cons (.free rfl) (.cons (.free rfl) .nil)) trivial memNil .nil memNil rfl trivial memNil rfl rfl rfl rfl rfl rfl ?_
  refine s_of (st_not rfl rfl) rfl rfl rfl rfl ?_
  refine s_mv (.inr rfl) (by conv => lhs; whnf) rfl rfl rfl ?_
  refine rt_nil ?_
  refine tri_cond rfl (fun c6 => ?_) (fun c6 => ?_)
  · replace h := cond_t h c6
    refine tri_seq ?_
    refine tri_region ?_
    refine s_mv (.inr rfl) (v := .sc (.int .i64 0)) rfl rfl rfl rfl ?_
    refine rt_nil ?_
    refine tri_ret ?_
    have e0 := (some1 h); subst e0
    exact endY [] [] (rvC (resTmp rfl) rvN) trivial trivial rfl rfl rfl rfl (.free rfl)
  · replace h := cond_f h c6
    refine tri_seq ?_
    refine tri_region ?_
    refine s_mv (.inl rfl) (by conv => lhs; whnf) rfl rfl rfl ?_
    refine s_mv (.inr rfl) (by conv => lhs; whnf) rfl rfl rfl ?_
    refine rt_nil ?_
    refine tri_cond rfl (fun c7 => ?_) (fun c7 => ?_)
    · replace h := cond_t h c7
      refine tri_seq ?_
      refine tri_region ?_
      refine s_mv (.inr rfl) (v := .sc (.int .i64 1)) rfl rfl rfl rfl ?_
      refine rt_nil ?_
      refine tri_ret ?_
      have e0 := (some1 h); subst e0
      exact endY [] [] (rvC (resTmp rfl) rvN) trivial trivial rfl rfl rfl rfl (.free rfl)
    · replace h := cond_f h c7
      refine tri_cutI (ι := { p : Bool // s_KindIn_j0 p0 p1 p = some r0 }) (fun p => inv_s_KindIn_0 p0 p1 p.1) ?_ ?_
      · skip
        refine tri_region ?_
        refine s_fieldAddr rfl rfl fd36_1 rfl rfl rfl rfl ?_
        refine s_load rfl rfl rfl rfl ty3 rfl (.inr rfl) (by conv => lhs; whnf) rfl rfl rfl ?_
        refine s_of (st_neI rfl rfl rfl) rfl rfl rfl rfl ?_
        refine s_mv (.inl rfl) (by conv => lhs; whnf) rfl rfl rfl ?_
        refine s_split (t := 27) rfl (fun b8 => ?_) (fun b8 => ?_)
        · replace h := cond_t h b8
          refine s_fieldAddr rfl rfl fd83_1 rfl rfl rfl rfl ?_
          refine s_load rfl rfl rfl rfl ty24 rfl (.inr rfl) (by conv => lhs; whnf) rfl rfl rfl ?_
          refine s_fieldAddr rfl rfl fd36_0 rfl rfl rfl rfl ?_
          refine s_load rfl rfl rfl rfl ty9 rfl (.inr rfl) (by conv => lhs; whnf) rfl rfl rfl ?_
          refine bnd1_elim h fun x9 q10 h => ?_
          refine s_callN (kb := []) (ns := []) (v := .ref (32, 0) 0 x9.length) rfl rfl cl100 (ws_SetOf p0.l p1.name 5 x9 q10) rfl (.cons (.free rfl) (.cons (.free rfl) (.cons (.free rfl) .nil))) trivial memNil .nil memNil rfl ⟨(allSc_map recV_sc), trivial⟩ memNil rfl (by first | (simp only [V.mat, V.mat1, V.mat0, matL, matT, List.length_map]; done) | (simp only [V.mat, V.mat1, V.mat0, matL, matT, List.length_map]; rfl)) rfl rfl rfl rfl ?_
          refine s_len (m := x9.length) rfl sl24 rfl rfl rfl rfl ?_
          refine s_of (st_gtr rfl rfl rfl) rfl rfl rfl rfl ?_
          refine s_pickT rfl rfl (by conv => lhs; whnf) rfl rfl rfl ?_
          refine s_mv (.inr rfl) (by conv => lhs; whnf) rfl rfl rfl ?_
          refine rt_nil ?_
          refine Exists.intro ⟨decide (0 < (x9.length : Int)), h⟩ ?_
          refine entX [((2, 0), ⟨83, 2, [[.sc (.string p0.apex), .lst 6 (List.map recV p0.l)]], false, true⟩, some (2, 0)), ((3, 0), ⟨36, 2, [[.sc (.string p1.name), .sc (.int .i64 p1.ty)]], false, true⟩, some (3, 0))] [] ⟨⟨rfl, _, rfl, rfl, rfl, rfl, id, rowsCv_one (.cons (.free rfl) (.cons (.free rfl) .nil)), rowsZ_one rfl⟩, ⟨rfl, _, rfl, rfl, rfl, rfl, id, rowsCv_one (.cons (.free rfl) (.cons (.free rfl) .nil)), rowsZ_one rfl⟩, trivial⟩ trivial rfl rfl ?_
          exact ⟨(.ptr rfl), (.ptr rfl), (.free rfl), trivial⟩
        · replace h := cond_f h b8
          refine s_skip rfl rfl rfl ?_
          refine s_skip rfl rfl rfl ?_
          refine s_skip rfl rfl rfl ?_
          refine s_skip rfl rfl rfl ?_
          refine s_skip rfl rfl rfl ?_
          refine s_skip rfl rfl rfl ?_
          refine s_skip rfl rfl rfl ?_
          refine s_pickF rfl rfl (v := .sc (.bool false)) rfl rfl rfl rfl ?_
          refine s_mv (.inr rfl) (by conv => lhs; whnf) rfl rfl rfl ?_
          refine rt_nil ?_
          refine Exists.intro ⟨false, h⟩ ?_
          refine entX [((2, 0), ⟨83, 2, [[.sc (.string p0.apex), .lst 6 (List.map recV p0.l)]], false, true⟩, some (2, 0)), ((3, 0), ⟨36, 2, [[.sc (.string p1.name), .sc (.int .i64 p1.ty)]], false, true⟩, some (3, 0))] [] ⟨⟨rfl, _, rfl, rfl, rfl, rfl, id, rowsCv_one (.cons (.free rfl) (.cons (.free rfl) .nil)), rowsZ_one rfl⟩, ⟨rfl, _, rfl, rfl, rfl, rfl, id, rowsCv_one (.cons (.free rfl) (.cons (.free rfl) .nil)), rowsZ_one rfl⟩, trivial⟩ trivial rfl rfl ?_
          exact ⟨(.ptr rfl), (.ptr rfl), (.free rfl), trivial⟩
      · rintro ⟨j0_0, h⟩
        replace h : s_KindIn_j0 p0 p1 j0_0 = some r0 := h
        unfold s_KindIn_j0 at h
        show Tri _ _ _ (inv_s_KindIn_0 p0 p1 j0_0)
        refine tri_cond rfl (fun c8 => ?_) (fun c8 => ?_)
        · replace h := cond_t h c8
          refine tri_seq ?_
          refine tri_region ?_
          refine s_mv (.inr rfl) (v := .sc (.int .i64 2)) rfl rfl rfl rfl ?_
          refine rt_nil ?_
          refine tri_ret ?_
          have e0 := (some1 h); subst e0
          exact endY [] [] (rvC (resTmp rfl) rvN) trivial trivial rfl rfl rfl rfl (.free rfl)
        · replace h := cond_f h c8
          refine tri_seq ?_
          refine tri_region ?_
          refine s_fieldAddr rfl rfl fd83_1 rfl rfl rfl rfl ?_
          refine s_load rfl rfl rfl rfl ty24 rfl (.inr rfl) (by conv => lhs; whnf) rfl rfl rfl ?_
          refine s_fieldAddr rfl rfl fd36_0 rfl rfl rfl rfl ?_
          refine s_load rfl rfl rfl rfl ty9 rfl (.inr rfl) (by conv => lhs; whnf) rfl rfl rfl ?_
          refine s_fieldAddr rfl rfl fd36_1 rfl rfl rfl rfl ?_
          refine s_load rfl rfl rfl rfl ty3 rfl (.inr rfl) (by conv => lhs; whnf) rfl rfl rfl ?_
          refine bnd1_elim h fun x9 q10 h => ?_
          refine s_callN (kb := []) (ns := []) (v := .ref (43, 0) 0 x9.length) rfl rfl cl100 (ws_SetOf p0.l p1.name p1.ty x9 q10) rfl (.cons (.free rfl) (.cons (.free rfl) (.cons (.free rfl) .nil))) trivial memNil .nil memNil rfl ⟨(allSc_map recV_sc), trivial⟩ memNil rfl (by first | (simp only [V.mat, V.mat1, V.mat0, matL, matT, List.length_map]; done) | (simp only [V.mat, V.mat1, V.mat0, matL, matT, List.length_map]; rfl)) rfl rfl rfl rfl ?_
          refine s_len (m := x9.length) rfl sl24 rfl rfl rfl rfl ?_
          refine s_of (st_gtr rfl rfl rfl) rfl rfl rfl rfl ?_
          refine s_mv (.inr rfl) (by conv => lhs; whnf) rfl rfl rfl ?_
          refine rt_nil ?_
          refine tri_cond rfl (fun c11 => ?_) (fun c11 => ?_)
          · replace h := cond_t h c11
            refine tri_seq ?_
            refine tri_region ?_
            refine s_mv (.inr rfl) (v := .sc (.int .i64 3)) rfl rfl rfl rfl ?_
            refine rt_nil ?_
            refine tri_ret ?_
            have e0 := (some1 h); subst e0
            exact endY [] [] (rvC (resTmp rfl) rvN) trivial trivial rfl rfl rfl rfl (.free rfl)
          · replace h := cond_f h c11
            refine tri_seq ?_
            refine tri_region ?_
            refine s_loadR rfl rfl rfl rfl ty83 rfl rfl rfl ?_
            refine s_fieldAddr rfl rfl fd36_0 rfl rfl rfl rfl ?_
            refine s_load rfl rfl rfl rfl ty9 rfl (.inr rfl) (by conv => lhs; whnf) rfl rfl rfl ?_
            refine bnd1_elim h fun x12 q13 h => ?_
            refine s_callN (kb := []) (ns := []) (v := .sc (.bool x12)) rfl rfl cl101 (ws_Exists p0 p1.name x12 q13) rfl (.cons (relAgg rfl) (.cons (.free rfl) .nil)) trivial memNil .nil memNil rfl trivial memNil rfl rfl rfl rfl rfl rfl ?_
            refine s_mv (.inr rfl) (by conv => lhs; whnf) rfl rfl rfl ?_
            refine rt_nil ?_
            refine tri_cond rfl (fun c14 => ?_) (fun c14 => ?_)
            · replace h := cond_t h c14
              refine tri_seq ?_
              refine tri_region ?_
              refine s_mv (.inr rfl) (v := .sc (.int .i64 4)) rfl rfl rfl rfl ?_
              refine rt_nil ?_
              refine tri_ret ?_
              have e0 := (some1 h); subst e0
              exact endY [] [] (rvC (resTmp rfl) rvN) trivial trivial rfl rfl rfl rfl (.free rfl)
            · replace h := cond_f h c14
              refine tri_skip ?_
              refine tri_seq ?_
              refine tri_region ?_
              refine s_mv (.inr rfl) (v := .sc (.int .i64 5)) rfl rfl rfl rfl ?_
              refine rt_nil ?_
              refine tri_ret ?_
              have e0 := (some1 h); subst e0
              exact endY [] [] (rvC (resTmp rfl) rvN) trivial trivial rfl rfl rfl rfl (.free rfl)

/- spec.AnswerIn -/

set_option maxRecDepth 4000 in
set_option maxHeartbeats 800000 in
theorem ws_AnswerIn (p0 : MZone) (p1 : Quest) (r0 : List Rec) (h : s_AnswerIn p0 p1 = some r0) : Runs Tryz.prog 50 [.agg (mZoneV p0), .agg (questV p1)] [] (.own 48 6 (List.map recV r0)) [] := by
  unfold s_AnswerIn at h
  refine runsR [.tmp 4] Tryz.func50 rfl rfl rfl rfl ?_
  rw [Tryz.ntmps50]
  refine tri_seq ?_
  refine tri_region ?_
  refine s_box rfl rfl rfl rfl rfl rfl rfl ?_
  refine s_box rfl rfl rfl rfl rfl rfl rfl ?_
  refine s_mv (.inr rfl) (v := .nils) rfl rfl rfl rfl ?_
  refine rt_nil ?_
  refine tri_seq ?_
  refine tri_seq ?_
  refine tri_region ?_
  refine s_loadR rfl rfl rfl rfl ty83 rfl rfl rfl ?_
  refine s_loadR rfl rfl rfl rfl ty36 rfl rfl rfl ?_
  refine bnd1_elim h fun x1 q2 h => ?_
  refine s_callN (kb := []) (ns := []) (v := .sc (.int .i64 x1)) rfl rfl cl49 (ws_KindIn p0 p1 x1 q2) rfl (.cons (relAgg rfl) (.cons (relAgg rfl) .nil)) trivial memNil .nil memNil rfl trivial memNil rfl rfl rfl rfl rfl rfl ?_
  refine rt_nil ?_
  refine tri_block ?_
  refine tri_seq ?_
  refine tri_region ?_
  refine s_of (st_eqI rfl rfl rfl) rfl rfl rfl rfl ?_
  refine s_mv (.inr rfl) (by conv => lhs; whnf) rfl rfl rfl ?_
  refine rt_nil ?_
  refine tri_cond rfl (fun c3 => ?_) (fun c3 => ?_)
  · replace h := cond_t h c3
    refine tri_seq ?_
    refine tri_region ?_
    refine s_fieldAddr rfl rfl fd83_1 rfl rfl rfl rfl ?_
    refine s_load rfl rfl rfl rfl ty24 rfl (.inr rfl) (by conv => lhs; whnf) rfl rfl rfl ?_
    refine s_fieldAddr rfl rfl fd36_0 rfl rfl rfl rfl ?_
    refine s_load rfl rfl rfl rfl ty9 rfl (.inr rfl) (by conv => lhs; whnf) rfl rfl rfl ?_
    refine bnd1_elim h fun x4 q5 h => ?_
    refine s_callN (kb := []) (ns := []) (v := .ref (14, 0) 0 x4.length) rfl rfl cl100 (ws_SetOf p0.l p1.name 5 x4 q5) rfl (.cons (.free rfl) (.cons (.free rfl) (.cons (.free rfl) .nil))) trivial memNil .nil memNil rfl ⟨(allSc_map recV_sc), trivial⟩ memNil rfl (by first | (simp only [V.mat, V.mat1, V.mat0, matL, matT, List.length_map]; done) | (simp only [V.mat, V.mat1, V.mat0, matL, matT, List.length_map]; rfl)) rfl rfl rfl rfl ?_
    refine s_mv (.inr rfl) (by conv => lhs; whnf) rfl rfl rfl ?_
    refine rt_nil ?_
    refine tri_ret ?_
    have e0 := (some1 h); subst e0
    exact endY (v' := .ref (2000, 0) 0 x4.length) [((2000, 0), ⟨48, 6, List.map recV x4, false, true⟩, some (14, 0))] [] (rvC (resTmp rfl) rvN) ⟨⟨rfl, _, rfl, rfl, rfl, rfl, id, rowsCv_eq rfl (allFree_map recV_free), rowsZ_map recV_len⟩, trivial⟩ trivial rfl rfl (by kernel_rfl) (by first | (simp only [V.mat, V.mat1, V.mat0, matL, matT, List.length_map]; done) | (simp only [V.mat, V.mat1, V.mat0, matL, matT, List.length_map]; rfl)) (.ref rfl)
  · replace h := cond_f h c3
    refine tri_seq ?_
    refine tri_region ?_
    refine s_of (st_eqI rfl rfl rfl) rfl rfl rfl rfl ?_
    refine s_mv (.inr rfl) (by conv => lhs; whnf) rfl rfl rfl ?_
    refine rt_nil ?_
    refine tri_cond rfl (fun c6 => ?_) (fun c6 => ?_)
    · replace h := cond_t h c6
      refine tri_seq ?_
      refine tri_region ?_
      refine s_fieldAddr rfl rfl fd83_1 rfl rfl rfl rfl ?_
      refine s_load rfl rfl rfl rfl ty24 rfl (.inr rfl) (by conv => lhs; whnf) rfl rfl rfl ?_
      refine s_fieldAddr rfl rfl fd36_0 rfl rfl rfl rfl ?_
      refine s_load rfl rfl rfl rfl ty9 rfl (.inr rfl) (by conv => lhs; whnf) rfl rfl rfl ?_
      refine s_fieldAddr rfl rfl fd36_1 rfl rfl rfl rfl ?_
      refine s_load rfl rfl rfl rfl ty3 rfl (.inr rfl) (by conv => lhs; whnf) rfl rfl rfl ?_
      refine bnd1_elim h fun x7 q8 h => ?_
      refine s_callN (kb := []) (ns := []) (v := .ref (23, 0) 0 x7.length) rfl rfl cl100 (ws_SetOf p0.l p1.name p1.ty x7 q8) rfl (.cons (.free rfl) (.cons (.free rfl) (.cons (.free rfl) .nil))) trivial memNil .nil memNil rfl ⟨(allSc_map recV_sc), trivial⟩ memNil rfl (by first | (simp only [V.mat, V.mat1, V.mat0, matL, matT, List.length_map]; done) | (simp only [V.mat, V.mat1, V.mat0, matL, matT, List.length_map]; rfl)) rfl rfl rfl rfl ?_
      refine s_mv (.inr rfl) (by conv => lhs; whnf) rfl rfl rfl ?_
      refine rt_nil ?_
      refine tri_ret ?_
      have e0 := (some1 h); subst e0
      exact endY (v' := .ref (2000, 0) 0 x7.length) [((2000, 0), ⟨48, 6, List.map recV x7, false, true⟩, some (23, 0))] [] (rvC (resTmp rfl) rvN) ⟨⟨rfl, _, rfl, rfl, rfl, rfl, id, rowsCv_eq rfl (allFree_map recV_free), rowsZ_map recV_len⟩, trivial⟩ trivial rfl rfl (by kernel_rfl) (by first | (simp only [V.mat, V.mat1, V.mat0, matL, matT, List.length_map]; done) | (simp only [V.mat, V.mat1, V.mat0, matL, matT, List.length_map]; rfl)) (.ref rfl)
    · replace h := cond_f h c6
      refine tri_skip ?_
      refine tri_seq ?_
      refine tri_region ?_
      refine s_buildSlice (rows' := List.map recV ([] : List Rec)) rfl rfl rfl sl24 zc48 rfl rfl rfl rfl rfl rfl rfl rfl rfl ?_
      refine s_mv (.inr rfl) (by conv => lhs; whnf) rfl rfl rfl ?_
      refine rt_nil ?_
      refine tri_ret ?_
      have e0 := (some1 h); subst e0
      exact endY (v' := .ref (2000, 0) 0 (([] : List Rec).length)) [((2000, 0), ⟨48, 6, List.map recV ([] : List Rec), false, true⟩, some (24, 0))] [] (rvC (resTmp rfl) rvN) ⟨⟨rfl, _, rfl, rfl, rfl, rfl, id, rowsCv_eq rfl (allFree_map recV_free), rowsZ_map recV_len⟩, trivial⟩ trivial rfl rfl (by kernel_rfl) (by first | (simp only [V.mat, V.mat1, V.mat0, matL, matT, List.length_map]; done) | (simp only [V.mat, V.mat1, V.mat0, matL, matT, List.length_map]; rfl)) (.ref rfl)

/- spec.Least -/

set_option maxRecDepth 4000 in
set_option maxHeartbeats 800000 in
theorem ws_Least (p0 : Int) (p1 : Int) (r0 : Int) (h : s_Least p0 p1 = some r0) : Runs Tryz.prog 160 [.sc (.int .i64 p0), .sc (.int .i64 p1)] [] (.sc (.int .i64 r0)) [] := by
  unfold s_Least at h
  refine runsR [.tmp 4] Tryz.func160 rfl rfl rfl rfl ?_
  rw [Tryz.ntmps160]
  refine tri_seq ?_
  refine tri_region ?_
  refine s_mv (.inr rfl) (v := .sc (.int .i64 0)) rfl rfl rfl rfl ?_
  refine rt_nil ?_
  refine tri_seq ?_
  refine tri_seq ?_
  refine tri_region ?_
  refine s_mv (.inl rfl) (by conv => lhs; whnf) rfl rfl rfl ?_
  refine s_mv (.inl rfl) (by conv => lhs; whnf) rfl rfl rfl ?_
  refine s_of (st_lss rfl rfl rfl) rfl rfl rfl rfl ?_
  refine rt_nil ?_
  refine tri_cond rfl (fun c1 => ?_) (fun c1 => ?_)
  · replace h := cond_t h c1
    refine tri_seq ?_
    refine tri_region ?_
    refine s_mv (.inl rfl) (by conv => lhs; whnf) rfl rfl rfl ?_
    refine s_mv (.inr rfl) (by conv => lhs; whnf) rfl rfl rfl ?_
    refine rt_nil ?_
    refine tri_ret ?_
    have e0 := (some1 h); subst e0
    exact endY [] [] (rvC (resTmp rfl) rvN) trivial trivial rfl rfl rfl rfl (.free rfl)
  · replace h := cond_f h c1
    refine tri_skip ?_
    refine tri_seq ?_
    refine tri_region ?_
    refine s_mv (.inl rfl) (by conv => lhs; whnf) rfl rfl rfl ?_
    refine s_mv (.inr rfl) (by conv => lhs; whnf) rfl rfl rfl ?_
    refine rt_nil ?_
    refine tri_ret ?_
    have e0 := (some1 h); subst e0
    exact endY [] [] (rvC (resTmp rfl) rvN) trivial trivial rfl rfl rfl rfl (.free rfl)

/- spec.l11First -/

set_option maxRecDepth 4000 in
set_option maxHeartbeats 800000 in
theorem ws_l11First (p0 : List Rec) (r0 : List Rec) (h : s_l11First p0 = some r0) : Runs Tryz.prog 122 [.lst 6 (List.map recV p0)] [] (.own 48 6 (List.map recV r0)) [] := by
  unfold s_l11First at h
  refine runsR [.tmp 2] Tryz.func122 rfl rfl rfl rfl ?_
  rw [Tryz.ntmps122]
  refine tri_seq ?_
  refine tri_region ?_
  refine s_mv (.inr rfl) (v := .nils) rfl rfl rfl rfl ?_
  refine rt_nil ?_
  refine tri_seq ?_
  refine tri_region ?_
  refine s_mv (.inl rfl) (by conv => lhs; whnf) rfl rfl rfl ?_
  refine s_mv (.inl rfl) (by conv => lhs; whnf) rfl rfl rfl ?_
  refine s_lenL rfl sl24 rfl rfl rfl rfl ?_
  refine bnd1_elim h fun x1 q2 h => ?_
  refine s_callN (kb := []) (ns := []) (v := .sc (.int .i64 x1)) rfl rfl cl160 (ws_Least (p0.length : Int) 8 x1 q2) rfl (.cons (.free rfl) (.cons (.free rfl) .nil)) trivial memNil .nil memNil rfl trivial memNil rfl rfl rfl rfl rfl rfl ?_
  refine grd_elim h fun g3 h => ?_
  refine s_sliceFZ (a := ((0 : Nat) : Int)) (b := x1) rfl rfl sl24 rfl ⟨_, rfl⟩ g3 rfl rfl rfl ?_
  refine bnd1_elim h fun x4 q5 h => ?_
  refine s_callN (kb := []) (ns := []) (v := .ref (8, 0) 0 x4.length) rfl rfl cl40 (ws_l7Copy ((p0.drop ((0 : Nat) : Int).toNat).take (x1.toNat - ((0 : Nat) : Int).toNat)) x4 q5) rfl (.cons (.free rfl) .nil) trivial memNil .nil memNil rfl ⟨(allSc_map recV_sc), trivial⟩ memNil rfl (by first | (simp only [V.mat, V.mat1, V.mat0, matL, matT, List.length_map]; done) | (simp only [V.mat, V.mat1, V.mat0, matL, matT, List.length_map]; rfl)) rfl rfl rfl rfl ?_
  refine s_mv (.inr rfl) (by conv => lhs; whnf) rfl rfl rfl ?_
  refine rt_nil ?_
  refine tri_ret ?_
  have e0 := (some1 h); subst e0
  exact endY (v' := .ref (2000, 0) 0 x4.length) [((2000, 0), ⟨48, 6, List.map recV x4, false, true⟩, some (8, 0))] [] (rvC (resTmp rfl) rvN) ⟨⟨rfl, _, rfl, rfl, rfl, rfl, id, rowsCv_eq rfl (allFree_map recV_free), rowsZ_map recV_len⟩, trivial⟩ trivial rfl rfl (by kernel_rfl) (by first | (simp only [V.mat, V.mat1, V.mat0, matL, matT, List.length_map]; done) | (simp only [V.mat, V.mat1, V.mat0, matL, matT, List.length_map]; rfl)) (.ref rfl)

/- spec.StartOf -/
def inv_s_StartOf_1 (p0 : MZone) (v1_0 : Nat) : St := mkT 24 [(1, .ptr (1, 0) 0 0), (2, .ptr (2, 0) 0 0), (3, .sc (.int .i64 (v1_0 : Int)))] [((1, 0), some ⟨83, 2, [[.sc (.string p0.apex), .lst 6 (List.map recV p0.l)]], false, true⟩), ((2, 0), some ⟨48, 6, [[.sc (.string (⟨#[]⟩ : ByteArray)), .sc (.int .i64 0), .sc (.int .i64 0), .sc (.int .i64 0), .sc (.string (⟨#[]⟩ : ByteArray)), .sc (.string (⟨#[]⟩ : ByteArray))]], false, true⟩)]
def inv_s_StartOf_0  : St := mkT 24 [(2, .ptr (2, 0) 0 0)] [((2, 0), some ⟨48, 6, [[.sc (.string (⟨#[]⟩ : ByteArray)), .sc (.int .i64 0), .sc (.int .i64 0), .sc (.int .i64 0), .sc (.string (⟨#[]⟩ : ByteArray)), .sc (.string (⟨#[]⟩ : ByteArray))]], false, true⟩)]
set_option maxRecDepth 4000 in
set_option maxHeartbeats 800000 in
theorem ws_StartOf (p0 : MZone) (r0 : Rec) (h : s_StartOf p0 = some r0) : Runs Tryz.prog 161 [.agg (mZoneV p0)] [] (.agg (recV r0)) [] := by
  unfold s_StartOf at h
  refine runsR [.cell 2 48] Tryz.func161 rfl rfl rfl rfl ?_
  rw [Tryz.ntmps161]
  refine tri_seq ?_
  refine tri_region ?_
  refine s_box rfl rfl rfl rfl rfl rfl rfl ?_
  refine s_alloc rfl rfl rfl zc48 rfl rfl rfl rfl rfl ?_
  refine rt_nil ?_
  refine tri_cutI (ι := { p : Unit // s_StartOf_j0 = some r0 }) (fun p => inv_s_StartOf_0) ?_ ?_
  · skip
    refine tri_seq ?_
    refine tri_region ?_
    refine s_mv (.inr rfl) (v := .sc (.int .i64 0)) rfl rfl rfl rfl ?_
    refine rt_nil ?_
    refine tri_block ?_
    refine tri_aggM 0 1 rfl rfl (fun hl1 => ?_)
    refine tri_loop (ι := { p : (List Rec) × Nat // p0.l.drop p.2 = p.1 ∧ s_StartOf_l1 p.1 p.2 = some r0 }) (fun p => inv_s_StartOf_1 p0 p.1.2) (fun p => p.1.1.length) ⟨(p0.l, 0), rfl, h⟩ ?_ ?_
    · skip
      refine entX [((1, 0), ⟨83, 2, [[.sc (.string p0.apex), .lst 6 (List.map recV p0.l)]], false, true⟩, some (1, 0)), ((2, 0), ⟨48, 6, [[.sc (.string (⟨#[]⟩ : ByteArray)), .sc (.int .i64 0), .sc (.int .i64 0), .sc (.int .i64 0), .sc (.string (⟨#[]⟩ : ByteArray)), .sc (.string (⟨#[]⟩ : ByteArray))]], false, true⟩, some (2, 0))] [] ⟨⟨rfl, _, rfl, rfl, rfl, rfl, id, rowsCv_one (.cons (.free rfl) (.cons (.free rfl) .nil)), rowsZ_one rfl⟩, ⟨rfl, _, rfl, rfl, rfl, rfl, id, rowsCv_one (.cons (.free rfl) (.cons (.free rfl) (.cons (.free rfl) (.cons (.free rfl) (.cons (.free rfl) (.cons (.free rfl) .nil)))))), rowsZ_one rfl⟩, trivial⟩ trivial rfl rfl ?_
      exact ⟨(.ptr rfl), (.ptr rfl), (.free rfl), trivial⟩
    · rintro ⟨⟨lrs1, v1_0⟩, hd1, h⟩
      replace hd1 : p0.l.drop v1_0 = lrs1 := hd1
      replace h : s_StartOf_l1 lrs1 v1_0 = some r0 := h
      show Tri _ _ _ (inv_s_StartOf_1 p0 v1_0)
      refine tri_seq ?_
      refine tri_seq ?_
      refine tri_region ?_
      refine s_mv (.inl rfl) (by conv => lhs; whnf) rfl rfl rfl ?_
      refine s_fieldAddr rfl rfl fd83_1 rfl rfl rfl rfl ?_
      refine s_load rfl rfl rfl rfl ty24 rfl (.inr rfl) (by conv => lhs; whnf) rfl rfl rfl ?_
      refine s_lenL rfl sl24 rfl rfl rfl rfl ?_
      refine s_of (st_lss rfl rfl rfl) rfl rfl rfl rfl ?_
      refine rt_nil ?_
      refine tri_cond rfl (fun c1 => ?_) (fun c1 => ?_)
      · refine drop_elim hd1 c1 fun e1 rs1 he hx1 hn1 => ?_
        subst he
        rw [s_StartOf_l1] at h
        refine tri_skip ?_
        refine tri_seq ?_
        refine tri_block ?_
        refine tri_seq ?_
        refine tri_region ?_
        refine s_fieldAddr rfl rfl fd83_1 rfl rfl rfl rfl ?_
        refine s_load rfl rfl rfl rfl ty24 rfl (.inr rfl) (by conv => lhs; whnf) rfl rfl rfl ?_
        refine s_mv (.inl rfl) (by conv => lhs; whnf) rfl rfl rfl ?_
        refine s_indexF (i := v1_0) rfl rfl rfl sl24 (get_ltM hx1) rfl rfl rfl ?_
        refine s_fieldAddrF rfl rfl fd48_1 rfl rfl rfl rfl ?_
        refine s_loadF rfl rfl (rowG hx1) ty3 rfl (.inr rfl) (by conv => lhs; whnf) rfl rfl rfl ?_
        refine s_of (st_eqI rfl rfl rfl) rfl rfl rfl rfl ?_
        refine rt_nil ?_
        refine tri_cond rfl (fun c2 => ?_) (fun c2 => ?_)
        · replace h := cond_t h c2
          refine tri_seq ?_
          refine tri_region ?_
          refine s_fieldAddr rfl rfl fd83_1 rfl rfl rfl rfl ?_
          refine s_load rfl rfl rfl rfl ty24 rfl (.inr rfl) (by conv => lhs; whnf) rfl rfl rfl ?_
          refine s_mv (.inl rfl) (by conv => lhs; whnf) rfl rfl rfl ?_
          refine s_indexF (i := v1_0) rfl rfl rfl sl24 (get_ltM hx1) rfl rfl rfl ?_
          refine s_loadFR rfl rfl (rowG hx1) ty48 rfl rfl rfl ?_
          refine s_storeB rfl rfl rfl ty48 rfl rfl rfl rfl rfl ?_
          refine rt_nil ?_
          refine tri_ret ?_
          have e0 := (some1 h); subst e0
          exact endY [] [] (rvC (resCell rfl rfl ty48) rvN) trivial trivial rfl rfl rfl rfl (cvAgg rfl)
        · replace h := cond_f h c2
          refine tri_skip ?_
          refine tri_region ?_
          refine s_mv (.inl rfl) (by conv => lhs; whnf) rfl rfl rfl ?_
          refine s_inc (a := v1_0) (b := 1) rfl rfl rfl rfl (by have := get_lt hx1; have := hl1; omega) rfl rfl rfl ?_
          refine s_mv (.inr rfl) (by conv => lhs; whnf) rfl rfl rfl ?_
          refine rt_nil ?_
          refine Exists.intro ⟨(rs1, (v1_0 + 1)), hn1, h⟩ (And.intro (Nat.lt_succ_self _) ?_)
          refine entX [((1, 0), ⟨83, 2, [[.sc (.string p0.apex), .lst 6 (List.map recV p0.l)]], false, true⟩, some (1, 0)), ((2, 0), ⟨48, 6, [[.sc (.string (⟨#[]⟩ : ByteArray)), .sc (.int .i64 0), .sc (.int .i64 0), .sc (.int .i64 0), .sc (.string (⟨#[]⟩ : ByteArray)), .sc (.string (⟨#[]⟩ : ByteArray))]], false, true⟩, some (2, 0))] [] ⟨⟨rfl, _, rfl, rfl, rfl, rfl, id, rowsCv_one (.cons (.free rfl) (.cons (.free rfl) .nil)), rowsZ_one rfl⟩, ⟨rfl, _, rfl, rfl, rfl, rfl, id, rowsCv_one (.cons (.free rfl) (.cons (.free rfl) (.cons (.free rfl) (.cons (.free rfl) (.cons (.free rfl) (.cons (.free rfl) .nil)))))), rowsZ_one rfl⟩, trivial⟩ trivial rfl rfl ?_
          exact ⟨(.ptr rfl), (.ptr rfl), (.free rfl), trivial⟩
      · have he := drop_f hd1 c1; subst he
        rw [s_StartOf_l1] at h
        refine tri_exit ?_
        refine Exists.intro ⟨(), h⟩ ?_
        refine entX [((2, 0), ⟨48, 6, [[.sc (.string (⟨#[]⟩ : ByteArray)), .sc (.int .i64 0), .sc (.int .i64 0), .sc (.int .i64 0), .sc (.string (⟨#[]⟩ : ByteArray)), .sc (.string (⟨#[]⟩ : ByteArray))]], false, true⟩, some (2, 0))] [] ⟨⟨rfl, _, rfl, rfl, rfl, rfl, id, rowsCv_one (.cons (.free rfl) (.cons (.free rfl) (.cons (.free rfl) (.cons (.free rfl) (.cons (.free rfl) (.cons (.free rfl) .nil)))))), rowsZ_one rfl⟩, trivial⟩ trivial rfl rfl ?_
        exact ⟨(.ptr rfl), trivial⟩
  · rintro ⟨u, h⟩
    replace h : s_StartOf_j0 = some r0 := h
    unfold s_StartOf_j0 at h
    show Tri _ _ _ (inv_s_StartOf_0)
    refine tri_seq ?_
    refine tri_region ?_
    refine s_build (cells' := [.sc (.string (⟨#[]⟩ : ByteArray)), .sc (.int .i64 0), .sc (.int .i64 0), .sc (.int .i64 0), .sc (.string (⟨#[]⟩ : ByteArray)), .sc (.string (⟨#[]⟩ : ByteArray))]) rfl stc48 rfl rfl rfl rfl rfl rfl rfl ?_
    refine s_storeB rfl rfl rfl ty48 rfl rfl rfl rfl rfl ?_
    refine rt_nil ?_
    refine tri_ret ?_
    have e0 := (some1 h); subst e0
    exact endY [] [] (rvC (resCell rfl rfl ty48) rvN) trivial trivial rfl rfl rfl rfl (cvAgg rfl)

/- spec.MoreIn -/
def inv_s_MoreIn_0 (p0 : MZone) (j0_0 : Bool) : St := mkT 30 [(2, .ptr (2, 0) 0 0), (23, .sc (.bool j0_0))] [((2, 0), some ⟨83, 2, [[.sc (.string p0.apex), .lst 6 (List.map recV p0.l)]], false, true⟩)]
set_option maxRecDepth 4000 in
set_option maxHeartbeats 800000 in
theorem ws_MoreIn (p0 : MZone) (p1 : Quest) (r0 : List Rec) (h : s_MoreIn p0 p1 = some r0) : Runs Tryz.prog 123 [.agg (mZoneV p0), .agg (questV p1)] [] (.own 48 6 (List.map recV r0)) [] := by
  unfold s_MoreIn at h
  refine runsR [.tmp 4] Tryz.func123 rfl rfl rfl rfl ?_
  rw [Tryz.ntmps123]
  refine tri_seq ?_
  refine tri_region ?_
  refine s_box rfl rfl rfl rfl rfl rfl rfl ?_
  refine s_box rfl rfl rfl rfl rfl rfl rfl ?_
  refine s_mv (.inr rfl) (v := .nils) rfl rfl rfl rfl ?_
  refine rt_nil ?_
  refine tri_seq ?_
  refine tri_seq ?_
  refine tri_region ?_
  refine s_loadR rfl rfl rfl rfl ty83 rfl rfl rfl ?_
  refine s_loadR rfl rfl rfl rfl ty36 rfl rfl rfl ?_
  refine bnd1_elim h fun x1 q2 h => ?_
  refine s_callN (kb := []) (ns := []) (v := .sc (.int .i64 x1)) rfl rfl cl49 (ws_KindIn p0 p1 x1 q2) rfl (.cons (relAgg rfl) (.cons (relAgg rfl) .nil)) trivial memNil .nil memNil rfl trivial memNil rfl rfl rfl rfl rfl rfl ?_
  refine rt_nil ?_
  refine tri_block ?_
  refine tri_seq ?_
  refine tri_region ?_
  refine s_of (st_eqI rfl rfl rfl) rfl rfl rfl rfl ?_
  refine s_mv (.inr rfl) (by conv => lhs; whnf) rfl rfl rfl ?_
  refine rt_nil ?_
  refine tri_cond rfl (fun c3 => ?_) (fun c3 => ?_)
  · replace h := cond_t h c3
    refine tri_seq ?_
    refine tri_region ?_
    refine s_loadR rfl rfl rfl rfl ty83 rfl rfl rfl ?_
    refine s_fieldAddr rfl rfl fd36_0 rfl rfl rfl rfl ?_
    refine s_load rfl rfl rfl rfl ty9 rfl (.inr rfl) (by conv => lhs; whnf) rfl rfl rfl ?_
    refine bnd2_elim h fun x4 x5 q6 h => ?_
    refine s_callN (kb := []) (ns := []) (v := .tup [.sc (.string x4), .sc (.bool x5)]) rfl rfl cl99 (ws_CutOf p0 p1.name x4 x5 q6) rfl (.cons (relAgg rfl) (.cons (.free rfl) .nil)) trivial memNil .nil memNil rfl trivial memNil rfl rfl rfl rfl rfl rfl ?_
    refine s_mv (.inl rfl) (by conv => lhs; whnf) rfl rfl rfl ?_
    refine s_extract rfl rfl rfl rfl rfl rfl ?_
    refine s_extract rfl rfl rfl rfl rfl rfl ?_
    refine s_mv (.inr rfl) (by conv => lhs; whnf) rfl rfl rfl ?_
    refine s_mv (.inr rfl) (by conv => lhs; whnf) rfl rfl rfl ?_
    refine rt_nil ?_
    refine tri_seq ?_
    refine tri_region ?_
    refine s_fieldAddr rfl rfl fd83_1 rfl rfl rfl rfl ?_
    refine s_load rfl rfl rfl rfl ty24 rfl (.inr rfl) (by conv => lhs; whnf) rfl rfl rfl ?_
    refine s_mv (.inl rfl) (by conv => lhs; whnf) rfl rfl rfl ?_
    refine bnd1_elim h fun x7 q8 h => ?_
    refine s_callN (kb := []) (ns := []) (v := .ref (22, 0) 0 x7.length) rfl rfl cl100 (ws_SetOf p0.l x4 2 x7 q8) rfl (.cons (.free rfl) (.cons (.free rfl) (.cons (.free rfl) .nil))) trivial memNil .nil memNil rfl ⟨(allSc_map recV_sc), trivial⟩ memNil rfl (by first | (simp only [V.mat, V.mat1, V.mat0, matL, matT, List.length_map]; done) | (simp only [V.mat, V.mat1, V.mat0, matL, matT, List.length_map]; rfl)) rfl rfl rfl rfl ?_
    refine s_mv (.inr rfl) (by conv => lhs; whnf) rfl rfl rfl ?_
    refine rt_nil ?_
    refine tri_ret ?_
    have e0 := (some1 h); subst e0
    exact endY (v' := .ref (2000, 0) 0 x7.length) [((2000, 0), ⟨48, 6, List.map recV x7, false, true⟩, some (22, 0))] [] (rvC (resTmp rfl) rvN) ⟨⟨rfl, _, rfl, rfl, rfl, rfl, id, rowsCv_eq rfl (allFree_map recV_free), rowsZ_map recV_len⟩, trivial⟩ trivial rfl rfl (by kernel_rfl) (by first | (simp only [V.mat, V.mat1, V.mat0, matL, matT, List.length_map]; done) | (simp only [V.mat, V.mat1, V.mat0, matL, matT, List.length_map]; rfl)) (.ref rfl)
  · replace h := cond_f h c3
    refine tri_cutI (ι := { p : Bool // s_MoreIn_j0 p0 p = some r0 }) (fun p => inv_s_MoreIn_0 p0 p.1) ?_ ?_
    · skip
      refine tri_seq ?_
      refine tri_region ?_
      refine s_of (st_eqI rfl rfl rfl) rfl rfl rfl rfl ?_
      refine s_mv (.inr rfl) (by conv => lhs; whnf) rfl rfl rfl ?_
      refine rt_nil ?_
      refine tri_cond rfl (fun c9 => ?_) (fun c9 => ?_)
      · replace h := cond_t h c9
        refine tri_skip ?_
        refine Exists.intro ⟨decide (x1 = 4), h⟩ ?_
        refine entX [((2, 0), ⟨83, 2, [[.sc (.string p0.apex), .lst 6 (List.map recV p0.l)]], false, true⟩, some (2, 0))] [] ⟨⟨rfl, _, rfl, rfl, rfl, rfl, id, rowsCv_one (.cons (.free rfl) (.cons (.free rfl) .nil)), rowsZ_one rfl⟩, trivial⟩ trivial rfl rfl ?_
        exact ⟨(.ptr rfl), (.free rfl), trivial⟩
      · replace h := cond_f h c9
        refine tri_region ?_
        refine s_of (st_eqI rfl rfl rfl) rfl rfl rfl rfl ?_
        refine s_mv (.inr rfl) (by conv => lhs; whnf) rfl rfl rfl ?_
        refine rt_nil ?_
        refine Exists.intro ⟨decide (x1 = 5), h⟩ ?_
        refine entX [((2, 0), ⟨83, 2, [[.sc (.string p0.apex), .lst 6 (List.map recV p0.l)]], false, true⟩, some (2, 0))] [] ⟨⟨rfl, _, rfl, rfl, rfl, rfl, id, rowsCv_one (.cons (.free rfl) (.cons (.free rfl) .nil)), rowsZ_one rfl⟩, trivial⟩ trivial rfl rfl ?_
        exact ⟨(.ptr rfl), (.free rfl), trivial⟩
    · rintro ⟨j0_0, h⟩
      replace h : s_MoreIn_j0 p0 j0_0 = some r0 := h
      unfold s_MoreIn_j0 at h
      show Tri _ _ _ (inv_s_MoreIn_0 p0 j0_0)
      refine tri_cond rfl (fun c9 => ?_) (fun c9 => ?_)
      · replace h := cond_t h c9
        refine tri_seq ?_
        refine tri_region ?_
        refine s_loadR rfl rfl rfl rfl ty83 rfl rfl rfl ?_
        refine bnd1_elim h fun x10 q11 h => ?_
        refine s_callN (kb := []) (ns := []) (v := .agg (recV x10)) rfl rfl cl161 (ws_StartOf p0 x10 q11) rfl (.cons (relAgg rfl) .nil) trivial memNil .nil memNil rfl trivial memNil rfl rfl rfl rfl rfl rfl ?_
        refine s_buildSlice (rows' := List.map recV [x10]) rfl rfl rfl sl24 zc48 rfl rfl rfl rfl rfl rfl rfl rfl rfl ?_
        refine s_mv (.inr rfl) (by conv => lhs; whnf) rfl rfl rfl ?_
        refine rt_nil ?_
        refine tri_ret ?_
        have e0 := (some1 h); subst e0
        exact endY (v' := .ref (2000, 0) 0 ([x10].length)) [((2000, 0), ⟨48, 6, List.map recV [x10], false, true⟩, some (28, 0))] [] (rvC (resTmp rfl) rvN) ⟨⟨rfl, _, rfl, rfl, rfl, rfl, id, rowsCv_eq rfl (allFree_map recV_free), rowsZ_map recV_len⟩, trivial⟩ trivial rfl rfl (by kernel_rfl) (by first | (simp only [V.mat, V.mat1, V.mat0, matL, matT, List.length_map]; done) | (simp only [V.mat, V.mat1, V.mat0, matL, matT, List.length_map]; rfl)) (.ref rfl)
      · replace h := cond_f h c9
        refine tri_skip ?_
        refine tri_seq ?_
        refine tri_region ?_
        refine s_buildSlice (rows' := List.map recV ([] : List Rec)) rfl rfl rfl sl24 zc48 rfl rfl rfl rfl rfl rfl rfl rfl rfl ?_
        refine s_mv (.inr rfl) (by conv => lhs; whnf) rfl rfl rfl ?_
        refine rt_nil ?_
        refine tri_ret ?_
        have e0 := (some1 h); subst e0
        exact endY (v' := .ref (2000, 0) 0 (([] : List Rec).length)) [((2000, 0), ⟨48, 6, List.map recV ([] : List Rec), false, true⟩, some (29, 0))] [] (rvC (resTmp rfl) rvN) ⟨⟨rfl, _, rfl, rfl, rfl, rfl, id, rowsCv_eq rfl (allFree_map recV_free), rowsZ_map recV_len⟩, trivial⟩ trivial rfl rfl (by kernel_rfl) (by first | (simp only [V.mat, V.mat1, V.mat0, matL, matT, List.length_map]; done) | (simp only [V.mat, V.mat1, V.mat0, matL, matT, List.length_map]; rfl)) (.ref rfl)

/- spec.Hosts -/
def inv_s_Hosts_1 (p0 : List Rec) (v0_0 : List ByteArray) (v0_1 : Nat) (j1_0 : Bool) : St := mkT 37 [(0, .lst 6 (List.map recV p0)), (3, .ref (2003, 0) 0 v0_0.length), (4, .sc (.int .i64 (v0_1 : Int))), (27, .sc (.bool j1_0))] [((2003, 0), some ⟨9, 1, List.map strV v0_0, false, true⟩)]
def inv_s_Hosts_0 (p0 : List Rec) (v0_0 : List ByteArray) (v0_1 : Nat) : St := mkT 37 [(0, .lst 6 (List.map recV p0)), (3, .ref (2003, 0) 0 v0_0.length), (4, .sc (.int .i64 (v0_1 : Int)))] [((2003, 0), some ⟨9, 1, List.map strV v0_0, false, true⟩)]
set_option maxRecDepth 4000 in
set_option maxHeartbeats 800000 in
theorem ws_Hosts (p0 : List Rec) (r0 : List ByteArray) (h : s_Hosts p0 = some r0) : Runs Tryz.prog 163 [.lst 6 (List.map recV p0)] [] (.own 9 1 (List.map strV r0)) [] := by
  unfold s_Hosts at h
  refine runsR [.tmp 2] Tryz.func163 rfl rfl rfl rfl ?_
  rw [Tryz.ntmps163]
  refine tri_seq ?_
  refine tri_region ?_
  refine s_mv (.inr rfl) (v := .nils) rfl rfl rfl rfl ?_
  refine rt_nil ?_
  refine tri_seq ?_
  refine tri_region ?_
  refine s_buildSlice (rows' := List.map strV ([] : List ByteArray)) rfl rfl rfl sl112 zc9 rfl rfl rfl rfl rfl rfl rfl rfl rfl ?_
  refine s_mv (.inr rfl) (by conv => lhs; whnf) rfl rfl rfl ?_
  refine rt_nil ?_
  refine tri_seq ?_
  refine tri_seq ?_
  refine tri_region ?_
  refine s_mv (.inr rfl) (v := .sc (.int .i64 0)) rfl rfl rfl rfl ?_
  refine rt_nil ?_
  refine tri_block ?_
  refine tri_lstM 0 rfl (fun hl0 => ?_)
  refine tri_loop (ι := { p : (List Rec) × (List ByteArray) × Nat // p0.drop p.2.2 = p.1 ∧ s_Hosts_l0 p.1 p.2.1 p.2.2 = some r0 }) (fun p => inv_s_Hosts_0 p0 p.1.2.1 p.1.2.2) (fun p => p.1.1.length) ⟨(p0, ([] : List ByteArray), 0), rfl, h⟩ ?_ ?_
  · skip
    refine entX [((2003, 0), ⟨9, 1, List.map strV ([] : List ByteArray), false, true⟩, some (5, 0))] [] ⟨⟨rfl, _, rfl, rfl, rfl, rfl, id, rowsCv_eq rfl (allFree_map strV_free), rowsZ_map strV_len⟩, trivial⟩ trivial rfl rfl ?_
    exact ⟨(.free rfl), (.ref rfl), (.free rfl), trivial⟩
  · rintro ⟨⟨lrs0, v0_0, v0_1⟩, hd0, h⟩
    replace hd0 : p0.drop v0_1 = lrs0 := hd0
    replace h : s_Hosts_l0 lrs0 v0_0 v0_1 = some r0 := h
    show Tri _ _ _ (inv_s_Hosts_0 p0 v0_0 v0_1)
    refine tri_seq ?_
    refine tri_seq ?_
    refine tri_region ?_
    refine s_mv (.inl rfl) (by conv => lhs; whnf) rfl rfl rfl ?_
    refine s_mv (.inl rfl) (by conv => lhs; whnf) rfl rfl rfl ?_
    refine s_lenL rfl sl24 rfl rfl rfl rfl ?_
    refine s_of (st_lss rfl rfl rfl) rfl rfl rfl rfl ?_
    refine rt_nil ?_
    refine tri_cond rfl (fun c1 => ?_) (fun c1 => ?_)
    · refine drop_elim hd0 c1 fun e0 rs0 he hx0 hn0 => ?_
      subst he
      rw [s_Hosts_l0] at h
      refine tri_skip ?_
      refine tri_seq ?_
      refine tri_block ?_
      refine tri_cutI (ι := { p : Bool // s_Hosts_j1 v0_0 v0_1 e0 (s_Hosts_l0 rs0) p = some r0 }) (fun p => inv_s_Hosts_1 p0 v0_0 v0_1 p.1) ?_ ?_
      · skip
        refine tri_region ?_
        refine s_mv (.inl rfl) (by conv => lhs; whnf) rfl rfl rfl ?_
        refine s_mv (.inl rfl) (by conv => lhs; whnf) rfl rfl rfl ?_
        refine s_indexF (i := v0_1) rfl rfl rfl sl24 (get_ltM hx0) rfl rfl rfl ?_
        refine s_fieldAddrF rfl rfl fd48_1 rfl rfl rfl rfl ?_
        refine s_loadF rfl rfl (rowG hx0) ty3 rfl (.inr rfl) (by conv => lhs; whnf) rfl rfl rfl ?_
        refine s_of (st_eqI rfl rfl rfl) rfl rfl rfl rfl ?_
        refine s_mv (.inl rfl) (by conv => lhs; whnf) rfl rfl rfl ?_
        refine s_split (t := 18) rfl (fun b2 => ?_) (fun b2 => ?_)
        · replace h := cond_t h b2
          refine s_mv (.inl rfl) (by conv => lhs; whnf) rfl rfl rfl ?_
          refine s_mv (.inl rfl) (by conv => lhs; whnf) rfl rfl rfl ?_
          refine s_mv (.inl rfl) (by conv => lhs; whnf) rfl rfl rfl ?_
          refine s_indexF (i := v0_1) rfl rfl rfl sl24 (get_ltM hx0) rfl rfl rfl ?_
          refine s_fieldAddrF rfl rfl fd48_4 rfl rfl rfl rfl ?_
          refine s_loadF rfl rfl (rowG hx0) ty9 rfl (.inr rfl) (by conv => lhs; whnf) rfl rfl rfl ?_
          refine bnd1_elim h fun x3 q4 h => ?_
          refine s_callN (kb := [(2003, 0)]) (ns := []) (v := .sc (.bool x3)) rfl rfl cl171 (ws_l9Has v0_0 e0.host x3 q4) rfl (.cons (lendL rfl (.head _) rfl strV_free strV_len) (.cons (.free rfl) .nil)) trivial memNil .nil (fun _ _ => List.not_mem_nil) rfl trivial memNil rfl rfl rfl rfl rfl rfl ?_
          refine s_of (st_not rfl rfl) rfl rfl rfl rfl ?_
          refine s_pickT rfl rfl (by conv => lhs; whnf) rfl rfl rfl ?_
          refine rt_nil ?_
          refine Exists.intro ⟨!x3, h⟩ ?_
          refine entX [((2003, 0), ⟨9, 1, List.map strV v0_0, false, true⟩, some (2003, 0))] [] ⟨⟨rfl, _, rfl, rfl, rfl, rfl, id, rowsCv_eq rfl (allFree_map strV_free), rowsZ_map strV_len⟩, trivial⟩ trivial rfl rfl ?_
          exact ⟨(.free rfl), (.ref rfl), (.free rfl), (.free rfl), trivial⟩
        · replace h := cond_f h b2
          refine s_skip rfl rfl rfl ?_
          refine s_skip rfl rfl rfl ?_
          refine s_skip rfl rfl rfl ?_
          refine s_skip rfl rfl rfl ?_
          refine s_skip rfl rfl rfl ?_
          refine s_skip rfl rfl rfl ?_
          refine s_skip rfl rfl rfl ?_
          refine s_skip rfl rfl rfl ?_
          refine s_pickF rfl rfl (v := .sc (.bool false)) rfl rfl rfl rfl ?_
          refine rt_nil ?_
          refine Exists.intro ⟨false, h⟩ ?_
          refine entX [((2003, 0), ⟨9, 1, List.map strV v0_0, false, true⟩, some (2003, 0))] [] ⟨⟨rfl, _, rfl, rfl, rfl, rfl, id, rowsCv_eq rfl (allFree_map strV_free), rowsZ_map strV_len⟩, trivial⟩ trivial rfl rfl ?_
          exact ⟨(.free rfl), (.ref rfl), (.free rfl), (.free rfl), trivial⟩
      · rintro ⟨j1_0, h⟩
        replace h : s_Hosts_j1 v0_0 v0_1 e0 (s_Hosts_l0 rs0) j1_0 = some r0 := h
        unfold s_Hosts_j1 at h
        show Tri _ _ _ (inv_s_Hosts_1 p0 v0_0 v0_1 j1_0)
        refine tri_cond rfl (fun c2 => ?_) (fun c2 => ?_)
        · replace h := cond_t h c2
          refine tri_region ?_
          refine s_mv (.inl rfl) (by conv => lhs; whnf) rfl rfl rfl ?_
          refine s_mv (.inl rfl) (by conv => lhs; whnf) rfl rfl rfl ?_
          refine s_mv (.inl rfl) (by conv => lhs; whnf) rfl rfl rfl ?_
          refine s_indexF (i := v0_1) rfl rfl rfl sl24 (get_ltM hx0) rfl rfl rfl ?_
          refine s_fieldAddrF rfl rfl fd48_4 rfl rfl rfl rfl ?_
          refine s_loadF rfl rfl (rowG hx0) ty9 rfl (.inr rfl) (by conv => lhs; whnf) rfl rfl rfl ?_
          refine s_buildSlice (rows' := List.map strV [e0.host]) rfl rfl rfl sl112 zc9 rfl rfl rfl rfl rfl rfl rfl rfl rfl ?_
          refine grd_elim h fun g3 h => ?_
          refine s_appL rfl rfl rfl sl112 zc9 rfl rfl rfl rfl rfl rfl (src_refL rfl rfl) g3 rfl rfl ?_
          refine s_mv (.inr rfl) (by conv => lhs; whnf) rfl rfl rfl ?_
          refine rt_nil ?_
          refine tri_region ?_
          refine s_mv (.inl rfl) (by conv => lhs; whnf) rfl rfl rfl ?_
          refine s_inc (a := v0_1) (b := 1) rfl rfl rfl rfl (by have := get_lt hx0; have := hl0; omega) rfl rfl rfl ?_
          refine s_mv (.inr rfl) (by conv => lhs; whnf) rfl rfl rfl ?_
          refine rt_nil ?_
          refine Exists.intro ⟨(rs0, v0_0 ++ [e0.host], (v0_1 + 1)), hn0, h⟩ (And.intro (Nat.lt_succ_self _) ?_)
          refine entX [((2003, 0), ⟨9, 1, List.map strV (v0_0 ++ [e0.host]), false, true⟩, some (35, 0))] [] ⟨⟨rfl, _, rfl, rfl, rfl, rfl, id, rowsCv_eq rfl (allFree_map strV_free), rowsZ_map strV_len⟩, trivial⟩ trivial rfl rfl ?_
          exact ⟨(.free rfl), (.ref rfl), (.free rfl), trivial⟩
        · replace h := cond_f h c2
          refine tri_skip ?_
          refine tri_region ?_
          refine s_mv (.inl rfl) (by conv => lhs; whnf) rfl rfl rfl ?_
          refine s_inc (a := v0_1) (b := 1) rfl rfl rfl rfl (by have := get_lt hx0; have := hl0; omega) rfl rfl rfl ?_
          refine s_mv (.inr rfl) (by conv => lhs; whnf) rfl rfl rfl ?_
          refine rt_nil ?_
          refine Exists.intro ⟨(rs0, v0_0, (v0_1 + 1)), hn0, h⟩ (And.intro (Nat.lt_succ_self _) ?_)
          refine entX [((2003, 0), ⟨9, 1, List.map strV v0_0, false, true⟩, some (2003, 0))] [] ⟨⟨rfl, _, rfl, rfl, rfl, rfl, id, rowsCv_eq rfl (allFree_map strV_free), rowsZ_map strV_len⟩, trivial⟩ trivial rfl rfl ?_
          exact ⟨(.free rfl), (.ref rfl), (.free rfl), trivial⟩
    · have he := drop_f hd0 c1; subst he
      rw [s_Hosts_l0] at h
      refine tri_exit ?_
      refine tri_seq ?_
      refine tri_region ?_
      refine s_mv (.inl rfl) (by conv => lhs; whnf) rfl rfl rfl ?_
      refine s_mv (.inr rfl) (by conv => lhs; whnf) rfl rfl rfl ?_
      refine rt_nil ?_
      refine tri_ret ?_
      have e0 := (some1 h); subst e0
      exact endY (v' := .ref (2000, 0) 0 v0_0.length) [((2000, 0), ⟨9, 1, List.map strV v0_0, false, true⟩, some (2003, 0))] [] (rvC (resTmp rfl) rvN) ⟨⟨rfl, _, rfl, rfl, rfl, rfl, id, rowsCv_eq rfl (allFree_map strV_free), rowsZ_map strV_len⟩, trivial⟩ trivial rfl rfl (by kernel_rfl) (by first | (simp only [V.mat, V.mat1, V.mat0, matL, matT, List.length_map]; done) | (simp only [V.mat, V.mat1, V.mat0, matL, matT, List.length_map]; rfl)) (.ref rfl)

/- spec.Glue -/
def inv_s_Glue_0 (p0 : MZone) (p1 : List ByteArray) (v0_0 : List Rec) (v0_1 : Nat) : St := mkT 24 [(1, .lst 1 (List.map strV p1)), (2, .ptr (2, 0) 0 0), (5, .ref (2005, 0) 0 v0_0.length), (6, .sc (.int .i64 (v0_1 : Int)))] [((2, 0), some ⟨83, 2, [[.sc (.string p0.apex), .lst 6 (List.map recV p0.l)]], false, true⟩), ((2005, 0), some ⟨48, 6, List.map recV v0_0, false, true⟩)]
set_option maxRecDepth 4000 in
set_option maxHeartbeats 800000 in
theorem ws_Glue (p0 : MZone) (p1 : List ByteArray) (r0 : List Rec) (h : s_Glue p0 p1 = some r0) : Runs Tryz.prog 162 [.agg (mZoneV p0), .lst 1 (List.map strV p1)] [] (.own 48 6 (List.map recV r0)) [] := by
  unfold s_Glue at h
  refine runsR [.tmp 4] Tryz.func162 rfl rfl rfl rfl ?_
  rw [Tryz.ntmps162]
  refine tri_seq ?_
  refine tri_region ?_
  refine s_box rfl rfl rfl rfl rfl rfl rfl ?_
  refine s_mv (.inr rfl) (v := .nils) rfl rfl rfl rfl ?_
  refine rt_nil ?_
  refine tri_seq ?_
  refine tri_region ?_
  refine s_buildSlice (rows' := List.map recV ([] : List Rec)) rfl rfl rfl sl24 zc48 rfl rfl rfl rfl rfl rfl rfl rfl rfl ?_
  refine s_mv (.inr rfl) (by conv => lhs; whnf) rfl rfl rfl ?_
  refine rt_nil ?_
  refine tri_seq ?_
  refine tri_seq ?_
  refine tri_region ?_
  refine s_mv (.inr rfl) (v := .sc (.int .i64 0)) rfl rfl rfl rfl ?_
  refine rt_nil ?_
  refine tri_block ?_
  refine tri_lstM 1 rfl (fun hl0 => ?_)
  refine tri_loop (ι := { p : (List ByteArray) × (List Rec) × Nat // p1.drop p.2.2 = p.1 ∧ s_Glue_l0 p0 p.1 p.2.1 p.2.2 = some r0 }) (fun p => inv_s_Glue_0 p0 p1 p.1.2.1 p.1.2.2) (fun p => p.1.1.length) ⟨(p1, ([] : List Rec), 0), rfl, h⟩ ?_ ?_
  · skip
    refine entX [((2, 0), ⟨83, 2, [[.sc (.string p0.apex), .lst 6 (List.map recV p0.l)]], false, true⟩, some (2, 0)), ((2005, 0), ⟨48, 6, List.map recV ([] : List Rec), false, true⟩, some (7, 0))] [] ⟨⟨rfl, _, rfl, rfl, rfl, rfl, id, rowsCv_one (.cons (.free rfl) (.cons (.free rfl) .nil)), rowsZ_one rfl⟩, ⟨rfl, _, rfl, rfl, rfl, rfl, id, rowsCv_eq rfl (allFree_map recV_free), rowsZ_map recV_len⟩, trivial⟩ trivial rfl rfl ?_
    exact ⟨(.free rfl), (.ptr rfl), (.ref rfl), (.free rfl), trivial⟩
  · rintro ⟨⟨lrs0, v0_0, v0_1⟩, hd0, h⟩
    replace hd0 : p1.drop v0_1 = lrs0 := hd0
    replace h : s_Glue_l0 p0 lrs0 v0_0 v0_1 = some r0 := h
    show Tri _ _ _ (inv_s_Glue_0 p0 p1 v0_0 v0_1)
    refine tri_seq ?_
    refine tri_seq ?_
    refine tri_region ?_
    refine s_mv (.inl rfl) (by conv => lhs; whnf) rfl rfl rfl ?_
    refine s_mv (.inl rfl) (by conv => lhs; whnf) rfl rfl rfl ?_
    refine s_lenL rfl sl112 rfl rfl rfl rfl ?_
    refine s_of (st_lss rfl rfl rfl) rfl rfl rfl rfl ?_
    refine rt_nil ?_
    refine tri_cond rfl (fun c1 => ?_) (fun c1 => ?_)
    · refine drop_elim hd0 c1 fun e0 rs0 he hx0 hn0 => ?_
      subst he
      rw [s_Glue_l0] at h
      refine tri_skip ?_
      refine tri_seq ?_
      refine tri_block ?_
      refine tri_draw mixed ?_
      refine s_mv (.inl rfl) (by conv => lhs; whnf) rfl rfl rfl ?_
      refine s_fieldAddr rfl rfl fd83_1 rfl rfl rfl rfl ?_
      refine s_load rfl rfl rfl rfl ty24 rfl (.inr rfl) (by conv => lhs; whnf) rfl rfl rfl ?_
      refine s_mv (.inl rfl) (by conv => lhs; whnf) rfl rfl rfl ?_
      refine s_mv (.inl rfl) (by conv => lhs; whnf) rfl rfl rfl ?_
      refine s_indexF (i := v0_1) rfl rfl rfl sl112 (get_ltM hx0) rfl rfl rfl ?_
      refine s_loadF rfl rfl (rowG hx0) ty9 rfl (.inr rfl) (by conv => lhs; whnf) rfl rfl rfl ?_
      refine bnd1_elim h fun x2 q3 h => ?_
      refine s_callN (kb := []) (ns := []) (v := .ref (21, 0) 0 x2.length) rfl rfl cl100 (ws_SetOf p0.l e0 1 x2 q3) rfl (.cons (.free rfl) (.cons (.free rfl) (.cons (.free rfl) .nil))) trivial memNil .nil memNil rfl ⟨(allSc_map recV_sc), trivial⟩ memNil rfl (by first | (simp only [V.mat, V.mat1, V.mat0, matL, matT, List.length_map]; done) | (simp only [V.mat, V.mat1, V.mat0, matL, matT, List.length_map]; rfl)) rfl rfl rfl rfl ?_
      refine grd_elim h fun g4 h => ?_
      refine s_appL rfl rfl rfl sl24 zc48 rfl rfl rfl rfl rfl rfl (src_refL rfl rfl) g4 rfl rfl ?_
      refine s_mv (.inr rfl) (by conv => lhs; whnf) rfl rfl rfl ?_
      refine rt_nil ⟨by kernel_rfl, ?_⟩
      refine tri_region ?_
      refine s_mv (.inl rfl) (by conv => lhs; whnf) rfl rfl rfl ?_
      refine s_inc (a := v0_1) (b := 1) rfl rfl rfl rfl (by have := get_lt hx0; have := hl0; omega) rfl rfl rfl ?_
      refine s_mv (.inr rfl) (by conv => lhs; whnf) rfl rfl rfl ?_
      refine rt_nil ?_
      refine Exists.intro ⟨(rs0, v0_0 ++ x2, (v0_1 + 1)), hn0, h⟩ (And.intro (Nat.lt_succ_self _) ?_)
      refine entX [((2, 0), ⟨83, 2, [[.sc (.string p0.apex), .lst 6 (List.map recV p0.l)]], false, true⟩, some (2, 0)), ((2005, 0), ⟨48, 6, List.map recV (v0_0 ++ x2), false, true⟩, some (22, 0))] [] ⟨⟨rfl, _, rfl, rfl, rfl, rfl, id, rowsCv_one (.cons (.free rfl) (.cons (.free rfl) .nil)), rowsZ_one rfl⟩, ⟨rfl, _, rfl, rfl, rfl, rfl, id, rowsCv_eq rfl (allFree_map recV_free), rowsZ_map recV_len⟩, trivial⟩ trivial rfl rfl ?_
      exact ⟨(.free rfl), (.ptr rfl), (.ref rfl), (.free rfl), trivial⟩
    · have he := drop_f hd0 c1; subst he
      rw [s_Glue_l0] at h
      refine tri_exit ?_
      refine tri_seq ?_
      refine tri_region ?_
      refine s_mv (.inl rfl) (by conv => lhs; whnf) rfl rfl rfl ?_
      refine s_mv (.inr rfl) (by conv => lhs; whnf) rfl rfl rfl ?_
      refine rt_nil ?_
      refine tri_ret ?_
      have e0 := (some1 h); subst e0
      exact endY (v' := .ref (2000, 0) 0 v0_0.length) [((2000, 0), ⟨48, 6, List.map recV v0_0, false, true⟩, some (2005, 0))] [] (rvC (resTmp rfl) rvN) ⟨⟨rfl, _, rfl, rfl, rfl, rfl, id, rowsCv_eq rfl (allFree_map recV_free), rowsZ_map recV_len⟩, trivial⟩ trivial rfl rfl (by kernel_rfl) (by first | (simp only [V.mat, V.mat1, V.mat0, matL, matT, List.length_map]; done) | (simp only [V.mat, V.mat1, V.mat0, matL, matT, List.length_map]; rfl)) (.ref rfl)

end Go.Abs.M
