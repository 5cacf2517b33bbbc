/- Walks of the functions that the law of AliasIn reaches: what each of them computes, where its pure function does not fail. -/
import Derived.Test.YtaggdjciembpdaaFnsAliasIn
import Derived.Test.YtaggdjciembpdaaChecked
namespace Go.Abs.M
open Go Go.Abs Go.Proofs
theorem cl17 : callable Try.prog 17 = true := by kernel_rfl
theorem cl19 : callable Try.prog 19 = true := by kernel_rfl
theorem cl21 : callable Try.prog 21 = true := by kernel_rfl
theorem cl28 : callable Try.prog 28 = true := by kernel_rfl
theorem cl32 : callable Try.prog 32 = true := by kernel_rfl
theorem cl33 : callable Try.prog 33 = true := by kernel_rfl
theorem cl58 : callable Try.prog 58 = true := by kernel_rfl
theorem cl59 : callable Try.prog 59 = true := by kernel_rfl
theorem cl60 : callable Try.prog 60 = true := by kernel_rfl
theorem cl61 : callable Try.prog 61 = true := by kernel_rfl
theorem cl62 : callable Try.prog 62 = true := by kernel_rfl
theorem cl64 : callable Try.prog 64 = true := by kernel_rfl
theorem cl65 : callable Try.prog 65 = true := by kernel_rfl
theorem cl79 : callable Try.prog 79 = true := by kernel_rfl
theorem cl85 : callable Try.prog 85 = true := by kernel_rfl
theorem cl86 : callable Try.prog 86 = true := by kernel_rfl
theorem fd36_0 : fldTy Try.prog 36 0 = some (0, 0 + 1, false) := by kernel_rfl
theorem fd36_1 : fldTy Try.prog 36 1 = some (1, 0 + 1, false) := by kernel_rfl
theorem fd36_2 : fldTy Try.prog 36 2 = some (2, 0 + 1, false) := by kernel_rfl
theorem fd36_3 : fldTy Try.prog 36 3 = some (3, 0 + 1, false) := by kernel_rfl
theorem fd36_4 : fldTy Try.prog 36 4 = some (4, 0 + 1, false) := by kernel_rfl
theorem fd36_5 : fldTy Try.prog 36 5 = some (5, 0 + 1, false) := by kernel_rfl
theorem fd70_0 : fldTy Try.prog 70 0 = some (0, 0 + 1, false) := by kernel_rfl
theorem fd70_1 : fldTy Try.prog 70 1 = some (1, 0 + 1, false) := by kernel_rfl
theorem fd71_0 : fldTy Try.prog 71 0 = some (0, 0 + 1, false) := by kernel_rfl
theorem fd71_1 : fldTy Try.prog 71 1 = some (1, 0 + 1, false) := by kernel_rfl
theorem fd73_0 : fldTy Try.prog 73 0 = some (0, 0 + 1, false) := by kernel_rfl
theorem fd73_1 : fldTy Try.prog 73 1 = some (1, 0 + 1, false) := by kernel_rfl
theorem fd73_10 : fldTy Try.prog 73 10 = some (11, 0 + 1, false) := by kernel_rfl
theorem fd73_2 : fldTy Try.prog 73 2 = some (2, 0 + 1, false) := by kernel_rfl
theorem fd73_3 : fldTy Try.prog 73 3 = some (3, 0 + 1, false) := by kernel_rfl
theorem fd73_4 : fldTy Try.prog 73 4 = some (4, 0 + 1, false) := by kernel_rfl
theorem fd73_5 : fldTy Try.prog 73 5 = some (5, 0 + 1, false) := by kernel_rfl
theorem fd73_6 : fldTy Try.prog 73 6 = some (6, 0 + 1, false) := by kernel_rfl
theorem fd73_7 : fldTy Try.prog 73 7 = some (7, 1 + 1, true) := by kernel_rfl
theorem fd73_8 : fldTy Try.prog 73 8 = some (9, 0 + 1, false) := by kernel_rfl
theorem fd73_9 : fldTy Try.prog 73 9 = some (10, 0 + 1, false) := by kernel_rfl
theorem fd78_0 : fldTy Try.prog 78 0 = some (0, 0 + 1, false) := by kernel_rfl
theorem fd78_1 : fldTy Try.prog 78 1 = some (1, 0 + 1, false) := by kernel_rfl
theorem fd78_10 : fldTy Try.prog 78 10 = some (11, 0 + 1, false) := by kernel_rfl
theorem fd78_2 : fldTy Try.prog 78 2 = some (2, 0 + 1, false) := by kernel_rfl
theorem fd78_3 : fldTy Try.prog 78 3 = some (3, 0 + 1, false) := by kernel_rfl
theorem fd78_4 : fldTy Try.prog 78 4 = some (4, 0 + 1, false) := by kernel_rfl
theorem fd78_5 : fldTy Try.prog 78 5 = some (5, 0 + 1, false) := by kernel_rfl
theorem fd78_6 : fldTy Try.prog 78 6 = some (6, 0 + 1, false) := by kernel_rfl
theorem fd78_7 : fldTy Try.prog 78 7 = some (7, 1 + 1, true) := by kernel_rfl
theorem fd78_8 : fldTy Try.prog 78 8 = some (9, 0 + 1, false) := by kernel_rfl
theorem fd78_9 : fldTy Try.prog 78 9 = some (10, 0 + 1, false) := by kernel_rfl
theorem fd84_0 : fldTy Try.prog 84 0 = some (0, 0 + 1, false) := by kernel_rfl
theorem fd84_1 : fldTy Try.prog 84 1 = some (1, 0 + 1, false) := by kernel_rfl
theorem fd84_2 : fldTy Try.prog 84 2 = some (2, 0 + 1, false) := by kernel_rfl
theorem fd84_3 : fldTy Try.prog 84 3 = some (3, 0 + 1, false) := by kernel_rfl
theorem fd84_4 : fldTy Try.prog 84 4 = some (4, 0 + 1, false) := by kernel_rfl
theorem fd84_5 : fldTy Try.prog 84 5 = some (5, 0 + 1, false) := by kernel_rfl
theorem isb4 : isBool Try.prog 4 = true := by kernel_rfl
theorem iss9 : isStr Try.prog 9 = true := by kernel_rfl
theorem sl24 : slTy Try.prog 24 = some (84, 6, 72) := by kernel_rfl
theorem sl27 : slTy Try.prog 27 = some (36, 6, 72) := by kernel_rfl
theorem stc36 : strTy Try.prog 36 = some ([(0, 1), (1, 1), (2, 1), (3, 1), (4, 1), (5, 1)], [.string ⟨#[]⟩, .int .i64 0, .int .i64 0, .int .i64 0, .string ⟨#[]⟩, .string ⟨#[]⟩]) := by kernel_rfl
theorem ty24 : tyK Try.prog 24 = some (false, 1) := by kernel_rfl
theorem ty27 : tyK Try.prog 27 = some (false, 1) := by kernel_rfl
theorem ty3 : tyK Try.prog 3 = some (false, 1) := by kernel_rfl
theorem ty36 : tyK Try.prog 36 = some (true, 6) := by kernel_rfl
theorem ty4 : tyK Try.prog 4 = some (false, 1) := by kernel_rfl
theorem ty70 : tyK Try.prog 70 = some (true, 2) := by kernel_rfl
theorem ty71 : tyK Try.prog 71 = some (true, 2) := by kernel_rfl
theorem ty73 : tyK Try.prog 73 = some (true, 12) := by kernel_rfl
theorem ty78 : tyK Try.prog 78 = some (true, 12) := by kernel_rfl
theorem ty84 : tyK Try.prog 84 = some (true, 6) := by kernel_rfl
theorem ty9 : tyK Try.prog 9 = some (false, 1) := by kernel_rfl
theorem zc36 : zeroC Try.prog 36 = some [.string ⟨#[]⟩, .int .i64 0, .int .i64 0, .int .i64 0, .string ⟨#[]⟩, .string ⟨#[]⟩] := by kernel_rfl
theorem zc70 : zeroC Try.prog 70 = some [.string ⟨#[]⟩, .int .i64 0] := by kernel_rfl
theorem zc78 : zeroC Try.prog 78 = some [.int .i64 0, .bool false, .bool false, .bool false, .bool false, .bool false, .int .i64 0, .string ⟨#[]⟩, .int .i64 0, .slice none 0 0, .slice none 0 0, .slice none 0 0] := by kernel_rfl
theorem mixed : Try.prog.follows .mixedOrders = true := by kernel_rfl
/- laws.szQuest -/

set_option maxRecDepth 4000 in
set_option maxHeartbeats 800000 in
theorem ww_szQuest (p0 : Quest) (p1 : Int) (r0 : Int) (h : w_szQuest p0 p1 = some r0) : Runs Try.prog 85 [.agg (questV p0), .sc (.int .i64 p1)] [] (.sc (.int .i64 r0)) [] := by
  unfold w_szQuest at h
  refine runsR [.tmp 4] Try.func85 rfl rfl rfl rfl ?_
  rw [Try.ntmps85]
  refine tri_seq ?_
  refine tri_region ?_
  refine s_box rfl rfl rfl rfl rfl rfl rfl ?_
  refine s_mv (.inr rfl) (v := .sc (.int .i64 0)) rfl rfl rfl rfl ?_
  refine rt_nil ?_
  refine tri_seq ?_
  refine tri_region ?_
  refine s_mv (.inl rfl) (by conv => lhs; whnf) rfl rfl rfl ?_
  refine s_fieldAddr rfl rfl fd71_0 rfl rfl rfl rfl ?_
  refine s_load rfl rfl rfl rfl ty9 rfl (.inr rfl) (by conv => lhs; whnf) rfl rfl rfl ?_
  refine s_of (st_lenS rfl rfl iss9) rfl rfl rfl rfl ?_
  refine grd_elim h fun g1 h => ?_
  refine s_subI rfl rfl rfl rfl g1 rfl rfl rfl ?_
  refine s_mv (.inr rfl) (by conv => lhs; whnf) rfl rfl rfl ?_
  refine rt_nil ?_
  refine tri_seq ?_
  refine tri_seq ?_
  refine tri_region ?_
  refine s_mv (.inl rfl) (by conv => lhs; whnf) rfl rfl rfl ?_
  refine s_of (st_lss rfl rfl rfl) rfl rfl rfl rfl ?_
  refine rt_nil ?_
  refine tri_cond rfl (fun c2 => ?_) (fun c2 => ?_)
  · replace h := cond_t h c2
    refine tri_seq ?_
    refine tri_region ?_
    refine s_mv (.inr rfl) (v := .sc (.int .i64 (-1))) rfl rfl rfl rfl ?_
    refine rt_nil ?_
    refine tri_ret ?_
    have e0 := (some1 h); subst e0
    exact endY [] [] (rvC (resTmp rfl) rvN) trivial trivial rfl rfl rfl rfl (.free rfl)
  · replace h := cond_f h c2
    refine tri_skip ?_
    refine tri_seq ?_
    refine tri_region ?_
    refine s_mv (.inl rfl) (by conv => lhs; whnf) rfl rfl rfl ?_
    refine s_mv (.inr rfl) (by conv => lhs; whnf) rfl rfl rfl ?_
    refine rt_nil ?_
    refine tri_ret ?_
    have e0 := (some1 h); subst e0
    exact endY [] [] (rvC (resTmp rfl) rvN) trivial trivial rfl rfl rfl rfl (.free rfl)

/- laws.szRecord -/

set_option maxRecDepth 4000 in
set_option maxHeartbeats 800000 in
theorem ww_szRecord (p0 : Rec) (p1 : Int) (r0 : Int) (h : w_szRecord p0 p1 = some r0) : Runs Try.prog 64 [.agg (recV p0), .sc (.int .i64 p1)] [] (.sc (.int .i64 r0)) [] := by
  unfold w_szRecord at h
  refine runsR [.tmp 4] Try.func64 rfl rfl rfl rfl ?_
  rw [Try.ntmps64]
  refine tri_seq ?_
  refine tri_region ?_
  refine s_box rfl rfl rfl rfl rfl rfl rfl ?_
  refine s_mv (.inr rfl) (v := .sc (.int .i64 0)) rfl rfl rfl rfl ?_
  refine rt_nil ?_
  refine tri_seq ?_
  refine tri_region ?_
  refine s_mv (.inl rfl) (by conv => lhs; whnf) rfl rfl rfl ?_
  refine s_fieldAddr rfl rfl fd84_0 rfl rfl rfl rfl ?_
  refine s_load rfl rfl rfl rfl ty9 rfl (.inr rfl) (by conv => lhs; whnf) rfl rfl rfl ?_
  refine s_of (st_lenS rfl rfl iss9) rfl rfl rfl rfl ?_
  refine grd_elim h fun g1 h => ?_
  refine s_subI rfl rfl rfl rfl g1 rfl rfl rfl ?_
  refine s_mv (.inr rfl) (by conv => lhs; whnf) rfl rfl rfl ?_
  refine rt_nil ?_
  refine tri_seq ?_
  refine tri_seq ?_
  refine tri_region ?_
  refine s_mv (.inl rfl) (by conv => lhs; whnf) rfl rfl rfl ?_
  refine s_of (st_lss rfl rfl rfl) rfl rfl rfl rfl ?_
  refine rt_nil ?_
  refine tri_cond rfl (fun c2 => ?_) (fun c2 => ?_)
  · replace h := cond_t h c2
    refine tri_seq ?_
    refine tri_region ?_
    refine s_mv (.inr rfl) (v := .sc (.int .i64 (-1))) rfl rfl rfl rfl ?_
    refine rt_nil ?_
    refine tri_ret ?_
    have e0 := (some1 h); subst e0
    exact endY [] [] (rvC (resTmp rfl) rvN) trivial trivial rfl rfl rfl rfl (.free rfl)
  · replace h := cond_f h c2
    refine tri_skip ?_
    refine tri_seq ?_
    refine tri_region ?_
    refine s_mv (.inl rfl) (by conv => lhs; whnf) rfl rfl rfl ?_
    refine s_fieldAddr rfl rfl fd84_4 rfl rfl rfl rfl ?_
    refine s_load rfl rfl rfl rfl ty9 rfl (.inr rfl) (by conv => lhs; whnf) rfl rfl rfl ?_
    refine s_of (st_lenS rfl rfl iss9) rfl rfl rfl rfl ?_
    refine grd_elim h fun g3 h => ?_
    refine s_subI rfl rfl rfl rfl g3 rfl rfl rfl ?_
    refine s_mv (.inr rfl) (by conv => lhs; whnf) rfl rfl rfl ?_
    refine rt_nil ?_
    refine tri_seq ?_
    refine tri_seq ?_
    refine tri_region ?_
    refine s_mv (.inl rfl) (by conv => lhs; whnf) rfl rfl rfl ?_
    refine s_of (st_lss rfl rfl rfl) rfl rfl rfl rfl ?_
    refine rt_nil ?_
    refine tri_cond rfl (fun c4 => ?_) (fun c4 => ?_)
    · replace h := cond_t h c4
      refine tri_seq ?_
      refine tri_region ?_
      refine s_mv (.inr rfl) (v := .sc (.int .i64 (-1))) rfl rfl rfl rfl ?_
      refine rt_nil ?_
      refine tri_ret ?_
      have e0 := (some1 h); subst e0
      exact endY [] [] (rvC (resTmp rfl) rvN) trivial trivial rfl rfl rfl rfl (.free rfl)
    · replace h := cond_f h c4
      refine tri_skip ?_
      refine tri_seq ?_
      refine tri_region ?_
      refine s_mv (.inl rfl) (by conv => lhs; whnf) rfl rfl rfl ?_
      refine s_fieldAddr rfl rfl fd84_5 rfl rfl rfl rfl ?_
      refine s_load rfl rfl rfl rfl ty9 rfl (.inr rfl) (by conv => lhs; whnf) rfl rfl rfl ?_
      refine s_of (st_lenS rfl rfl iss9) rfl rfl rfl rfl ?_
      refine grd_elim h fun g5 h => ?_
      refine s_subI rfl rfl rfl rfl g5 rfl rfl rfl ?_
      refine s_mv (.inr rfl) (by conv => lhs; whnf) rfl rfl rfl ?_
      refine rt_nil ?_
      refine tri_seq ?_
      refine tri_seq ?_
      refine tri_region ?_
      refine s_mv (.inl rfl) (by conv => lhs; whnf) rfl rfl rfl ?_
      refine s_of (st_lss rfl rfl rfl) rfl rfl rfl rfl ?_
      refine rt_nil ?_
      refine tri_cond rfl (fun c6 => ?_) (fun c6 => ?_)
      · replace h := cond_t h c6
        refine tri_seq ?_
        refine tri_region ?_
        refine s_mv (.inr rfl) (v := .sc (.int .i64 (-1))) rfl rfl rfl rfl ?_
        refine rt_nil ?_
        refine tri_ret ?_
        have e0 := (some1 h); subst e0
        exact endY [] [] (rvC (resTmp rfl) rvN) trivial trivial rfl rfl rfl rfl (.free rfl)
      · replace h := cond_f h c6
        refine tri_skip ?_
        refine tri_seq ?_
        refine tri_region ?_
        refine s_mv (.inl rfl) (by conv => lhs; whnf) rfl rfl rfl ?_
        refine s_mv (.inr rfl) (by conv => lhs; whnf) rfl rfl rfl ?_
        refine rt_nil ?_
        refine tri_ret ?_
        have e0 := (some1 h); subst e0
        exact endY [] [] (rvC (resTmp rfl) rvN) trivial trivial rfl rfl rfl rfl (.free rfl)

/- laws.szRecordS -/
def inv_w_szRecordS_0 (p0 : List Rec) (v0_0 : Int) (v0_1 : Nat) : St := mkT 27 [(0, .lst 6 (List.map recV p0)), (1, .sc (.int .i64 v0_0)), (5, .sc (.int .i64 (v0_1 : Int)))] []
set_option maxRecDepth 4000 in
set_option maxHeartbeats 800000 in
theorem ww_szRecordS (p0 : List Rec) (p1 : Int) (r0 : Int) (h : w_szRecordS p0 p1 = some r0) : Runs Try.prog 17 [.lst 6 (List.map recV p0), .sc (.int .i64 p1)] [] (.sc (.int .i64 r0)) [] := by
  unfold w_szRecordS at h
  refine runsR [.tmp 4] Try.func17 rfl rfl rfl rfl ?_
  rw [Try.ntmps17]
  refine tri_seq ?_
  refine tri_region ?_
  refine s_mv (.inr rfl) (v := .sc (.int .i64 0)) rfl rfl rfl rfl ?_
  refine rt_nil ?_
  refine tri_seq ?_
  refine tri_region ?_
  refine s_mv (.inl rfl) (by conv => lhs; whnf) rfl rfl rfl ?_
  refine s_mv (.inl rfl) (by conv => lhs; whnf) rfl rfl rfl ?_
  refine s_lenL rfl sl24 rfl rfl rfl rfl ?_
  refine grd_elim h fun g1 h => ?_
  refine s_subI rfl rfl rfl rfl g1 rfl rfl rfl ?_
  refine s_mv (.inr rfl) (by conv => lhs; whnf) rfl rfl rfl ?_
  refine rt_nil ?_
  refine tri_seq ?_
  refine tri_seq ?_
  refine tri_region ?_
  refine s_mv (.inl rfl) (by conv => lhs; whnf) rfl rfl rfl ?_
  refine s_of (st_lss rfl rfl rfl) rfl rfl rfl rfl ?_
  refine rt_nil ?_
  refine tri_cond rfl (fun c2 => ?_) (fun c2 => ?_)
  · replace h := cond_t h c2
    refine tri_seq ?_
    refine tri_region ?_
    refine s_mv (.inr rfl) (v := .sc (.int .i64 (-1))) rfl rfl rfl rfl ?_
    refine rt_nil ?_
    refine tri_ret ?_
    have e0 := (some1 h); subst e0
    exact endY [] [] (rvC (resTmp rfl) rvN) trivial trivial rfl rfl rfl rfl (.free rfl)
  · replace h := cond_f h c2
    refine tri_skip ?_
    refine tri_seq ?_
    refine tri_seq ?_
    refine tri_region ?_
    refine s_mv (.inr rfl) (v := .sc (.int .i64 0)) rfl rfl rfl rfl ?_
    refine rt_nil ?_
    refine tri_block ?_
    refine tri_lstM 0 rfl (fun hl0 => ?_)
    refine tri_loop (ι := { p : (List Rec) × Int × Nat // p0.drop p.2.2 = p.1 ∧ w_szRecordS_l0 p.1 p.2.1 p.2.2 = some r0 }) (fun p => inv_w_szRecordS_0 p0 p.1.2.1 p.1.2.2) (fun p => p.1.1.length) ⟨(p0, p1 - (p0.length : Int), 0), rfl, h⟩ ?_ ?_
    · skip
      refine entX [] [] trivial trivial rfl rfl ?_
      exact ⟨(.free rfl), (.free rfl), (.free rfl), trivial⟩
    · rintro ⟨⟨lrs0, v0_0, v0_1⟩, hd0, h⟩
      replace hd0 : p0.drop v0_1 = lrs0 := hd0
      replace h : w_szRecordS_l0 lrs0 v0_0 v0_1 = some r0 := h
      show Tri _ _ _ (inv_w_szRecordS_0 p0 v0_0 v0_1)
      refine tri_seq ?_
      refine tri_seq ?_
      refine tri_region ?_
      refine s_mv (.inl rfl) (by conv => lhs; whnf) rfl rfl rfl ?_
      refine s_mv (.inl rfl) (by conv => lhs; whnf) rfl rfl rfl ?_
      refine s_lenL rfl sl24 rfl rfl rfl rfl ?_
      refine s_of (st_lss rfl rfl rfl) rfl rfl rfl rfl ?_
      refine rt_nil ?_
      refine tri_cond rfl (fun c3 => ?_) (fun c3 => ?_)
      · refine drop_elim hd0 c3 fun e0 rs0 he hx0 hn0 => ?_
        subst he
        rw [w_szRecordS_l0] at h
        refine tri_skip ?_
        refine tri_seq ?_
        refine tri_block ?_
        refine tri_seq ?_
        refine tri_region ?_
        refine s_mv (.inl rfl) (by conv => lhs; whnf) rfl rfl rfl ?_
        refine s_mv (.inl rfl) (by conv => lhs; whnf) rfl rfl rfl ?_
        refine s_indexF (i := v0_1) rfl rfl rfl sl24 (get_ltM hx0) rfl rfl rfl ?_
        refine s_loadFR rfl rfl (rowG hx0) ty84 rfl rfl rfl ?_
        refine s_mv (.inl rfl) (by conv => lhs; whnf) rfl rfl rfl ?_
        refine bnd1_elim h fun x4 q5 h => ?_
        refine s_callN (kb := []) (ns := []) (v := .sc (.int .i64 x4)) rfl rfl cl64 (ww_szRecord e0 v0_0 x4 q5) rfl (.cons (relAgg rfl) (.cons (.free rfl) .nil)) trivial memNil .nil memNil rfl trivial memNil rfl rfl rfl rfl rfl rfl ?_
        refine s_mv (.inr rfl) (by conv => lhs; whnf) rfl rfl rfl ?_
        refine rt_nil ?_
        refine tri_seq ?_
        refine tri_region ?_
        refine s_mv (.inl rfl) (by conv => lhs; whnf) rfl rfl rfl ?_
        refine s_of (st_lss rfl rfl rfl) rfl rfl rfl rfl ?_
        refine rt_nil ?_
        refine tri_cond rfl (fun c6 => ?_) (fun c6 => ?_)
        · replace h := cond_t h c6
          refine tri_seq ?_
          refine tri_region ?_
          refine s_mv (.inr rfl) (v := .sc (.int .i64 (-1))) rfl rfl rfl rfl ?_
          refine rt_nil ?_
          refine tri_ret ?_
          have e0 := (some1 h); subst e0
          exact endY [] [] (rvC (resTmp rfl) rvN) trivial trivial rfl rfl rfl rfl (.free rfl)
        · replace h := cond_f h c6
          refine tri_skip ?_
          refine tri_region ?_
          refine s_mv (.inl rfl) (by conv => lhs; whnf) rfl rfl rfl ?_
          refine s_inc (a := v0_1) (b := 1) rfl rfl rfl rfl (by have := get_lt hx0; have := hl0; omega) rfl rfl rfl ?_
          refine s_mv (.inr rfl) (by conv => lhs; whnf) rfl rfl rfl ?_
          refine rt_nil ?_
          refine Exists.intro ⟨(rs0, x4, (v0_1 + 1)), hn0, h⟩ (And.intro (Nat.lt_succ_self _) ?_)
          refine entX [] [] trivial trivial rfl rfl ?_
          exact ⟨(.free rfl), (.free rfl), (.free rfl), trivial⟩
      · have he := drop_f hd0 c3; subst he
        rw [w_szRecordS_l0] at h
        refine tri_exit ?_
        refine tri_seq ?_
        refine tri_region ?_
        refine s_mv (.inl rfl) (by conv => lhs; whnf) rfl rfl rfl ?_
        refine s_mv (.inr rfl) (by conv => lhs; whnf) rfl rfl rfl ?_
        refine rt_nil ?_
        refine tri_ret ?_
        have e0 := (some1 h); subst e0
        exact endY [] [] (rvC (resTmp rfl) rvN) trivial trivial rfl rfl rfl rfl (.free rfl)

/- laws.szMsg -/

set_option maxRecDepth 4000 in
set_option maxHeartbeats 800000 in
theorem ww_szMsg (p0 : MMsg) (p1 : Int) (r0 : Int) (h : w_szMsg p0 p1 = some r0) : Runs Try.prog 58 [.agg (mMsgV p0), .sc (.int .i64 p1)] [] (.sc (.int .i64 r0)) [] := by
  unfold w_szMsg at h
  refine runsR [.tmp 4] Try.func58 rfl rfl rfl rfl ?_
  rw [Try.ntmps58]
  refine tri_seq ?_
  refine tri_region ?_
  refine s_box rfl rfl rfl rfl rfl rfl rfl ?_
  refine s_mv (.inr rfl) (v := .sc (.int .i64 0)) rfl rfl rfl rfl ?_
  refine rt_nil ?_
  refine tri_seq ?_
  refine tri_region ?_
  refine s_fieldAddr rfl rfl fd73_7 rfl rfl rfl rfl ?_
  refine s_load (v := .agg (questV p0.q)) rfl rfl rfl rfl ty71 rfl (.inl rfl) rfl rfl rfl rfl ?_
  refine s_mv (.inl rfl) (by conv => lhs; whnf) rfl rfl rfl ?_
  refine bnd1_elim h fun x1 q2 h => ?_
  refine s_callN (kb := []) (ns := []) (v := .sc (.int .i64 x1)) rfl rfl cl85 (ww_szQuest p0.q p1 x1 q2) rfl (.cons (relAgg rfl) (.cons (.free rfl) .nil)) trivial memNil .nil memNil rfl trivial memNil rfl rfl rfl rfl rfl rfl ?_
  refine s_mv (.inr rfl) (by conv => lhs; whnf) rfl rfl rfl ?_
  refine rt_nil ?_
  refine tri_seq ?_
  refine tri_seq ?_
  refine tri_region ?_
  refine s_mv (.inl rfl) (by conv => lhs; whnf) rfl rfl rfl ?_
  refine s_of (st_lss rfl rfl rfl) rfl rfl rfl rfl ?_
  refine rt_nil ?_
  refine tri_cond rfl (fun c3 => ?_) (fun c3 => ?_)
  · replace h := cond_t h c3
    refine tri_seq ?_
    refine tri_region ?_
    refine s_mv (.inr rfl) (v := .sc (.int .i64 (-1))) rfl rfl rfl rfl ?_
    refine rt_nil ?_
    refine tri_ret ?_
    have e0 := (some1 h); subst e0
    exact endY [] [] (rvC (resTmp rfl) rvN) trivial trivial rfl rfl rfl rfl (.free rfl)
  · replace h := cond_f h c3
    refine tri_skip ?_
    refine tri_seq ?_
    refine tri_region ?_
    refine s_fieldAddr rfl rfl fd73_8 rfl rfl rfl rfl ?_
    refine s_load rfl rfl rfl rfl ty24 rfl (.inr rfl) (by conv => lhs; whnf) rfl rfl rfl ?_
    refine s_mv (.inl rfl) (by conv => lhs; whnf) rfl rfl rfl ?_
    refine bnd1_elim h fun x4 q5 h => ?_
    refine s_callN (kb := []) (ns := []) (v := .sc (.int .i64 x4)) rfl rfl cl17 (ww_szRecordS p0.an x1 x4 q5) rfl (.cons (.free rfl) (.cons (.free rfl) .nil)) trivial memNil .nil memNil rfl trivial memNil rfl rfl rfl rfl rfl rfl ?_
    refine s_mv (.inr rfl) (by conv => lhs; whnf) rfl rfl rfl ?_
    refine rt_nil ?_
    refine tri_seq ?_
    refine tri_seq ?_
    refine tri_region ?_
    refine s_mv (.inl rfl) (by conv => lhs; whnf) rfl rfl rfl ?_
    refine s_of (st_lss rfl rfl rfl) rfl rfl rfl rfl ?_
    refine rt_nil ?_
    refine tri_cond rfl (fun c6 => ?_) (fun c6 => ?_)
    · replace h := cond_t h c6
      refine tri_seq ?_
      refine tri_region ?_
      refine s_mv (.inr rfl) (v := .sc (.int .i64 (-1))) rfl rfl rfl rfl ?_
      refine rt_nil ?_
      refine tri_ret ?_
      have e0 := (some1 h); subst e0
      exact endY [] [] (rvC (resTmp rfl) rvN) trivial trivial rfl rfl rfl rfl (.free rfl)
    · replace h := cond_f h c6
      refine tri_skip ?_
      refine tri_seq ?_
      refine tri_region ?_
      refine s_fieldAddr rfl rfl fd73_9 rfl rfl rfl rfl ?_
      refine s_load rfl rfl rfl rfl ty24 rfl (.inr rfl) (by conv => lhs; whnf) rfl rfl rfl ?_
      refine s_mv (.inl rfl) (by conv => lhs; whnf) rfl rfl rfl ?_
      refine bnd1_elim h fun x7 q8 h => ?_
      refine s_callN (kb := []) (ns := []) (v := .sc (.int .i64 x7)) rfl rfl cl17 (ww_szRecordS p0.au x4 x7 q8) rfl (.cons (.free rfl) (.cons (.free rfl) .nil)) trivial memNil .nil memNil rfl trivial memNil rfl rfl rfl rfl rfl rfl ?_
      refine s_mv (.inr rfl) (by conv => lhs; whnf) rfl rfl rfl ?_
      refine rt_nil ?_
      refine tri_seq ?_
      refine tri_seq ?_
      refine tri_region ?_
      refine s_mv (.inl rfl) (by conv => lhs; whnf) rfl rfl rfl ?_
      refine s_of (st_lss rfl rfl rfl) rfl rfl rfl rfl ?_
      refine rt_nil ?_
      refine tri_cond rfl (fun c9 => ?_) (fun c9 => ?_)
      · replace h := cond_t h c9
        refine tri_seq ?_
        refine tri_region ?_
        refine s_mv (.inr rfl) (v := .sc (.int .i64 (-1))) rfl rfl rfl rfl ?_
        refine rt_nil ?_
        refine tri_ret ?_
        have e0 := (some1 h); subst e0
        exact endY [] [] (rvC (resTmp rfl) rvN) trivial trivial rfl rfl rfl rfl (.free rfl)
      · replace h := cond_f h c9
        refine tri_skip ?_
        refine tri_seq ?_
        refine tri_region ?_
        refine s_fieldAddr rfl rfl fd73_10 rfl rfl rfl rfl ?_
        refine s_load rfl rfl rfl rfl ty24 rfl (.inr rfl) (by conv => lhs; whnf) rfl rfl rfl ?_
        refine s_mv (.inl rfl) (by conv => lhs; whnf) rfl rfl rfl ?_
        refine bnd1_elim h fun x10 q11 h => ?_
        refine s_callN (kb := []) (ns := []) (v := .sc (.int .i64 x10)) rfl rfl cl17 (ww_szRecordS p0.ad x7 x10 q11) rfl (.cons (.free rfl) (.cons (.free rfl) .nil)) trivial memNil .nil memNil rfl trivial memNil rfl rfl rfl rfl rfl rfl ?_
        refine s_mv (.inr rfl) (by conv => lhs; whnf) rfl rfl rfl ?_
        refine rt_nil ?_
        refine tri_seq ?_
        refine tri_seq ?_
        refine tri_region ?_
        refine s_mv (.inl rfl) (by conv => lhs; whnf) rfl rfl rfl ?_
        refine s_of (st_lss rfl rfl rfl) rfl rfl rfl rfl ?_
        refine rt_nil ?_
        refine tri_cond rfl (fun c12 => ?_) (fun c12 => ?_)
        · replace h := cond_t h c12
          refine tri_seq ?_
          refine tri_region ?_
          refine s_mv (.inr rfl) (v := .sc (.int .i64 (-1))) rfl rfl rfl rfl ?_
          refine rt_nil ?_
          refine tri_ret ?_
          have e0 := (some1 h); subst e0
          exact endY [] [] (rvC (resTmp rfl) rvN) trivial trivial rfl rfl rfl rfl (.free rfl)
        · replace h := cond_f h c12
          refine tri_skip ?_
          refine tri_seq ?_
          refine tri_region ?_
          refine s_mv (.inl rfl) (by conv => lhs; whnf) rfl rfl rfl ?_
          refine s_mv (.inr rfl) (by conv => lhs; whnf) rfl rfl rfl ?_
          refine rt_nil ?_
          refine tri_ret ?_
          have e0 := (some1 h); subst e0
          exact endY [] [] (rvC (resTmp rfl) rvN) trivial trivial rfl rfl rfl rfl (.free rfl)

/- laws.toQuest -/

set_option maxRecDepth 4000 in
set_option maxHeartbeats 800000 in
theorem ww_toQuest (p0 : Quest) (r0 : Quest) (h : w_toQuest p0 = some r0) : Runs Try.prog 86 [.agg (questV p0)] [] (.agg (questV r0)) [] := by
  unfold w_toQuest at h
  refine runsR [.cell 2 70] Try.func86 rfl rfl rfl rfl ?_
  rw [Try.ntmps86]
  refine tri_seq ?_
  refine tri_region ?_
  refine s_box rfl rfl rfl rfl rfl rfl rfl ?_
  refine s_alloc rfl rfl rfl zc70 rfl rfl rfl rfl rfl ?_
  refine rt_nil ?_
  refine tri_seq ?_
  refine tri_region ?_
  refine s_alloc rfl rfl rfl zc70 rfl rfl rfl rfl rfl ?_
  refine rt_nil ?_
  refine tri_seq ?_
  refine tri_region ?_
  refine s_fieldAddr rfl rfl fd71_0 rfl rfl rfl rfl ?_
  refine s_load rfl rfl rfl rfl ty9 rfl (.inr rfl) (by conv => lhs; whnf) rfl rfl rfl ?_
  refine s_fieldAddr rfl rfl fd70_0 rfl rfl rfl rfl ?_
  refine s_store (rows' := [[.sc (.string p0.name), .sc (.int .i64 0)]]) rfl rfl rfl rfl ty9 rfl rfl rfl rfl rfl rfl ?_
  refine rt_nil ?_
  refine tri_seq ?_
  refine tri_region ?_
  refine s_fieldAddr rfl rfl fd71_1 rfl rfl rfl rfl ?_
  refine s_load rfl rfl rfl rfl ty3 rfl (.inr rfl) (by conv => lhs; whnf) rfl rfl rfl ?_
  refine s_fieldAddr rfl rfl fd70_1 rfl rfl rfl rfl ?_
  refine s_store (rows' := [[.sc (.string p0.name), .sc (.int .i64 p0.ty)]]) rfl rfl rfl rfl ty3 rfl rfl rfl rfl rfl rfl ?_
  refine rt_nil ?_
  refine tri_seq ?_
  refine tri_region ?_
  refine s_loadR rfl rfl rfl rfl ty70 rfl rfl rfl ?_
  refine s_storeB rfl rfl rfl ty70 rfl rfl rfl rfl rfl ?_
  refine rt_nil ?_
  refine tri_ret ?_
  have e0 := (some1 h); subst e0
  exact endY [] [] (rvC (resCell rfl rfl ty70) rvN) trivial trivial rfl rfl rfl rfl (cvAgg rfl)

/- laws.toRecord -/

set_option maxRecDepth 4000 in
set_option maxHeartbeats 800000 in
theorem ww_toRecord (p0 : Rec) (r0 : Rec) (h : w_toRecord p0 = some r0) : Runs Try.prog 65 [.agg (recV p0)] [] (.agg (recV r0)) [] := by
  unfold w_toRecord at h
  refine runsR [.cell 2 36] Try.func65 rfl rfl rfl rfl ?_
  rw [Try.ntmps65]
  refine tri_seq ?_
  refine tri_region ?_
  refine s_box rfl rfl rfl rfl rfl rfl rfl ?_
  refine s_alloc rfl rfl rfl zc36 rfl rfl rfl rfl rfl ?_
  refine rt_nil ?_
  refine tri_seq ?_
  refine tri_region ?_
  refine s_alloc rfl rfl rfl zc36 rfl rfl rfl rfl rfl ?_
  refine rt_nil ?_
  refine tri_seq ?_
  refine tri_region ?_
  refine s_fieldAddr rfl rfl fd84_0 rfl rfl rfl rfl ?_
  refine s_load rfl rfl rfl rfl ty9 rfl (.inr rfl) (by conv => lhs; whnf) rfl rfl rfl ?_
  refine s_fieldAddr rfl rfl fd36_0 rfl rfl rfl rfl ?_
  refine s_store (rows' := [[.sc (.string p0.name), .sc (.int .i64 0), .sc (.int .i64 0), .sc (.int .i64 0), .sc (.string (⟨#[]⟩ : ByteArray)), .sc (.string (⟨#[]⟩ : ByteArray))]]) rfl rfl rfl rfl ty9 rfl rfl rfl rfl rfl rfl ?_
  refine rt_nil ?_
  refine tri_seq ?_
  refine tri_region ?_
  refine s_fieldAddr rfl rfl fd84_1 rfl rfl rfl rfl ?_
  refine s_load rfl rfl rfl rfl ty3 rfl (.inr rfl) (by conv => lhs; whnf) rfl rfl rfl ?_
  refine s_fieldAddr rfl rfl fd36_1 rfl rfl rfl rfl ?_
  refine s_store (rows' := [[.sc (.string p0.name), .sc (.int .i64 p0.ty), .sc (.int .i64 0), .sc (.int .i64 0), .sc (.string (⟨#[]⟩ : ByteArray)), .sc (.string (⟨#[]⟩ : ByteArray))]]) rfl rfl rfl rfl ty3 rfl rfl rfl rfl rfl rfl ?_
  refine rt_nil ?_
  refine tri_seq ?_
  refine tri_region ?_
  refine s_fieldAddr rfl rfl fd84_2 rfl rfl rfl rfl ?_
  refine s_load rfl rfl rfl rfl ty3 rfl (.inr rfl) (by conv => lhs; whnf) rfl rfl rfl ?_
  refine s_fieldAddr rfl rfl fd36_2 rfl rfl rfl rfl ?_
  refine s_store (rows' := [[.sc (.string p0.name), .sc (.int .i64 p0.ty), .sc (.int .i64 p0.ttl), .sc (.int .i64 0), .sc (.string (⟨#[]⟩ : ByteArray)), .sc (.string (⟨#[]⟩ : ByteArray))]]) rfl rfl rfl rfl ty3 rfl rfl rfl rfl rfl rfl ?_
  refine rt_nil ?_
  refine tri_seq ?_
  refine tri_region ?_
  refine s_fieldAddr rfl rfl fd84_3 rfl rfl rfl rfl ?_
  refine s_load rfl rfl rfl rfl ty3 rfl (.inr rfl) (by conv => lhs; whnf) rfl rfl rfl ?_
  refine s_fieldAddr rfl rfl fd36_3 rfl rfl rfl rfl ?_
  refine s_store (rows' := [[.sc (.string p0.name), .sc (.int .i64 p0.ty), .sc (.int .i64 p0.ttl), .sc (.int .i64 p0.n), .sc (.string (⟨#[]⟩ : ByteArray)), .sc (.string (⟨#[]⟩ : ByteArray))]]) rfl rfl rfl rfl ty3 rfl rfl rfl rfl rfl rfl ?_
  refine rt_nil ?_
  refine tri_seq ?_
  refine tri_region ?_
  refine s_fieldAddr rfl rfl fd84_4 rfl rfl rfl rfl ?_
  refine s_load rfl rfl rfl rfl ty9 rfl (.inr rfl) (by conv => lhs; whnf) rfl rfl rfl ?_
  refine s_fieldAddr rfl rfl fd36_4 rfl rfl rfl rfl ?_
  refine s_store (rows' := [[.sc (.string p0.name), .sc (.int .i64 p0.ty), .sc (.int .i64 p0.ttl), .sc (.int .i64 p0.n), .sc (.string p0.host), .sc (.string (⟨#[]⟩ : ByteArray))]]) rfl rfl rfl rfl ty9 rfl rfl rfl rfl rfl rfl ?_
  refine rt_nil ?_
  refine tri_seq ?_
  refine tri_region ?_
  refine s_fieldAddr rfl rfl fd84_5 rfl rfl rfl rfl ?_
  refine s_load rfl rfl rfl rfl ty9 rfl (.inr rfl) (by conv => lhs; whnf) rfl rfl rfl ?_
  refine s_fieldAddr rfl rfl fd36_5 rfl rfl rfl rfl ?_
  refine s_store (rows' := [[.sc (.string p0.name), .sc (.int .i64 p0.ty), .sc (.int .i64 p0.ttl), .sc (.int .i64 p0.n), .sc (.string p0.host), .sc (.string p0.text)]]) rfl rfl rfl rfl ty9 rfl rfl rfl rfl rfl rfl ?_
  refine rt_nil ?_
  refine tri_seq ?_
  refine tri_region ?_
  refine s_loadR rfl rfl rfl rfl ty36 rfl rfl rfl ?_
  refine s_storeB rfl rfl rfl ty36 rfl rfl rfl rfl rfl ?_
  refine rt_nil ?_
  refine tri_ret ?_
  have e0 := (some1 h); subst e0
  exact endY [] [] (rvC (resCell rfl rfl ty36) rvN) trivial trivial rfl rfl rfl rfl (cvAgg rfl)

/- laws.toRecordS -/
def inv_w_toRecordS_0 (p0 : List Rec) (v0_0 : List Rec) (v0_1 : Nat) : St := mkT 23 [(0, .lst 6 (List.map recV p0)), (3, .ref (7, 0) 0 v0_0.length), (4, .sc (.int .i64 (v0_1 : Int)))] [((7, 0), some ⟨36, 6, List.map recV v0_0, false, true⟩)]
set_option maxRecDepth 4000 in
set_option maxHeartbeats 800000 in
theorem ww_toRecordS (p0 : List Rec) (r0 : List Rec) (h : w_toRecordS p0 = some r0) : Runs Try.prog 19 [.lst 6 (List.map recV p0)] [] (.own 36 6 (List.map recV r0)) [] := by
  unfold w_toRecordS at h
  refine runsR [.tmp 2] Try.func19 rfl rfl rfl rfl ?_
  rw [Try.ntmps19]
  refine tri_seq ?_
  refine tri_region ?_
  refine s_mv (.inr rfl) (v := .nils) rfl rfl rfl rfl ?_
  refine rt_nil ?_
  refine tri_seq ?_
  refine tri_region ?_
  refine s_mv (.inl rfl) (by conv => lhs; whnf) rfl rfl rfl ?_
  refine s_lenL rfl sl24 rfl rfl rfl rfl ?_
  refine grd_elim h fun g1 h => ?_
  refine s_makeL (f := recV) (a := Rec.mk (⟨#[]⟩ : ByteArray) 0 0 0 (⟨#[]⟩ : ByteArray) (⟨#[]⟩ : ByteArray)) rfl rfl rfl rfl rfl sl27 zc36 rfl rfl rfl rfl g1.1 g1.2 rfl rfl rfl ?_
  refine s_mv (.inr rfl) (by conv => lhs; whnf) rfl rfl rfl ?_
  refine rt_nil ?_
  refine tri_seq ?_
  refine tri_seq ?_
  refine tri_region ?_
  refine s_mv (.inr rfl) (v := .sc (.int .i64 0)) rfl rfl rfl rfl ?_
  refine rt_nil ?_
  refine tri_block ?_
  refine tri_lstM 0 rfl (fun hl0 => ?_)
  refine tri_loop (ι := { p : (List Rec) × (List Rec) × Nat // p0.drop p.2.2 = p.1 ∧ w_toRecordS_l0 p.1 p.2.1 p.2.2 = some r0 }) (fun p => inv_w_toRecordS_0 p0 p.1.2.1 p.1.2.2) (fun p => p.1.1.length) ⟨(p0, List.replicate (p0.length : Int).toNat (Rec.mk (⟨#[]⟩ : ByteArray) 0 0 0 (⟨#[]⟩ : ByteArray) (⟨#[]⟩ : ByteArray)), 0), rfl, h⟩ ?_ ?_
  · skip
    refine entX [((7, 0), ⟨36, 6, List.map recV (List.replicate (p0.length : Int).toNat (Rec.mk (⟨#[]⟩ : ByteArray) 0 0 0 (⟨#[]⟩ : ByteArray) (⟨#[]⟩ : ByteArray))), false, true⟩, some (7, 0))] [] ⟨⟨rfl, _, rfl, rfl, rfl, rfl, id, rowsCv_eq rfl (allFree_map recV_free), rowsZ_map recV_len⟩, trivial⟩ trivial rfl rfl ?_
    exact ⟨(.free rfl), (.ref rfl), (.free rfl), trivial⟩
  · rintro ⟨⟨lrs0, v0_0, v0_1⟩, hd0, h⟩
    replace hd0 : p0.drop v0_1 = lrs0 := hd0
    replace h : w_toRecordS_l0 lrs0 v0_0 v0_1 = some r0 := h
    show Tri _ _ _ (inv_w_toRecordS_0 p0 v0_0 v0_1)
    refine tri_seq ?_
    refine tri_seq ?_
    refine tri_region ?_
    refine s_mv (.inl rfl) (by conv => lhs; whnf) rfl rfl rfl ?_
    refine s_mv (.inl rfl) (by conv => lhs; whnf) rfl rfl rfl ?_
    refine s_lenL rfl sl24 rfl rfl rfl rfl ?_
    refine s_of (st_lss rfl rfl rfl) rfl rfl rfl rfl ?_
    refine rt_nil ?_
    refine tri_cond rfl (fun c2 => ?_) (fun c2 => ?_)
    · refine drop_elim hd0 c2 fun e0 rs0 he hx0 hn0 => ?_
      subst he
      rw [w_toRecordS_l0] at h
      refine tri_skip ?_
      refine tri_seq ?_
      refine tri_block ?_
      refine tri_region ?_
      refine s_mv (.inl rfl) (by conv => lhs; whnf) rfl rfl rfl ?_
      refine s_mv (.inl rfl) (by conv => lhs; whnf) rfl rfl rfl ?_
      refine s_mv (.inl rfl) (by conv => lhs; whnf) rfl rfl rfl ?_
      refine s_mv (.inl rfl) (by conv => lhs; whnf) rfl rfl rfl ?_
      refine s_indexF (i := v0_1) rfl rfl rfl sl24 (get_ltM hx0) rfl rfl rfl ?_
      refine s_loadFR rfl rfl (rowG hx0) ty84 rfl rfl rfl ?_
      refine bnd1_elim h fun x3 q4 h => ?_
      refine s_callN (kb := []) (ns := []) (v := .agg (recV x3)) rfl rfl cl65 (ww_toRecord e0 x3 q4) rfl (.cons (relAgg rfl) .nil) trivial memNil .nil memNil rfl trivial memNil rfl rfl rfl rfl rfl rfl ?_
      refine bnd1_elim h fun x5 q6 h => ?_
      have q6a := (idx_some q6).1; have q6b := (idx_some q6).2
      refine s_indexZ rfl rfl rfl rfl sl27 rfl q6a (get_lt q6b) rfl rfl rfl ?_
      refine s_storeL (x' := x3) rfl rfl rfl q6b ty36 rfl rfl rfl rfl rfl rfl ?_
      refine rt_nil ?_
      refine tri_region ?_
      refine s_mv (.inl rfl) (by conv => lhs; whnf) rfl rfl rfl ?_
      refine s_inc (a := v0_1) (b := 1) rfl rfl rfl rfl (by have := get_lt hx0; have := hl0; omega) rfl rfl rfl ?_
      refine s_mv (.inr rfl) (by conv => lhs; whnf) rfl rfl rfl ?_
      refine rt_nil ?_
      refine Exists.intro ⟨(rs0, v0_0.set ((v0_1 : Int).toNat) x3, (v0_1 + 1)), hn0, h⟩ (And.intro (Nat.lt_succ_self _) ?_)
      refine entX [((7, 0), ⟨36, 6, List.map recV (v0_0.set ((v0_1 : Int).toNat) x3), false, true⟩, some (7, 0))] [] ⟨⟨rfl, _, rfl, rfl, rfl, rfl, id, rowsCv_eq rfl (allFree_map recV_free), rowsZ_map recV_len⟩, trivial⟩ trivial rfl rfl ?_
      exact ⟨(.free rfl), (cvRefLen rfl (by simp only [List.length_set])), (.free rfl), trivial⟩
    · have he := drop_f hd0 c2; subst he
      rw [w_toRecordS_l0] at h
      refine tri_exit ?_
      refine tri_seq ?_
      refine tri_region ?_
      refine s_mv (.inl rfl) (by conv => lhs; whnf) rfl rfl rfl ?_
      refine s_mv (.inr rfl) (by conv => lhs; whnf) rfl rfl rfl ?_
      refine rt_nil ?_
      refine tri_ret ?_
      have e0 := (some1 h); subst e0
      exact endY (v' := .ref (2000, 0) 0 v0_0.length) [((2000, 0), ⟨36, 6, List.map recV v0_0, false, true⟩, some (7, 0))] [] (rvC (resTmp rfl) rvN) ⟨⟨rfl, _, rfl, rfl, rfl, rfl, id, rowsCv_eq rfl (allFree_map recV_free), rowsZ_map recV_len⟩, trivial⟩ trivial rfl rfl (by kernel_rfl) (by simp only [V.mat, V.mat1, V.mat0, matL, matT, List.length_map]) (.ref rfl)

/- laws.toMsg -/

set_option maxRecDepth 4000 in
set_option maxHeartbeats 800000 in
theorem ww_toMsg (p0 : MMsg) (r0 : MMsg) (h : w_toMsg p0 = some r0) : Runs Try.prog 60 [.agg (mMsgV p0)] [] (.agg [.sc (.int .i64 r0.id), .sc (.bool r0.reply), .sc (.bool r0.auth), .sc (.bool r0.cut), .sc (.bool r0.want), .sc (.bool r0.can), .sc (.int .i64 r0.code), .sc (.string r0.q.name), .sc (.int .i64 r0.q.ty), .own 36 6 (List.map recV r0.an), .own 36 6 (List.map recV r0.au), .own 36 6 (List.map recV r0.ad)]) [] := by
  unfold w_toMsg at h
  refine runsR [.cell 2 78] Try.func60 rfl rfl rfl rfl ?_
  rw [Try.ntmps60]
  refine tri_seq ?_
  refine tri_region ?_
  refine s_box rfl rfl rfl rfl rfl rfl rfl ?_
  refine s_alloc rfl rfl rfl zc78 rfl rfl rfl rfl rfl ?_
  refine rt_nil ?_
  refine tri_seq ?_
  refine tri_region ?_
  refine s_alloc rfl rfl rfl zc78 rfl rfl rfl rfl rfl ?_
  refine rt_nil ?_
  refine tri_seq ?_
  refine tri_region ?_
  refine s_fieldAddr rfl rfl fd73_0 rfl rfl rfl rfl ?_
  refine s_load rfl rfl rfl rfl ty3 rfl (.inr rfl) (by conv => lhs; whnf) rfl rfl rfl ?_
  refine s_fieldAddr rfl rfl fd78_0 rfl rfl rfl rfl ?_
  refine s_store (rows' := [[.sc (.int .i64 p0.id), .sc (.bool false), .sc (.bool false), .sc (.bool false), .sc (.bool false), .sc (.bool false), .sc (.int .i64 0), .sc (.string (⟨#[]⟩ : ByteArray)), .sc (.int .i64 0), .nils, .nils, .nils]]) rfl rfl rfl rfl ty3 rfl rfl rfl rfl rfl rfl ?_
  refine rt_nil ?_
  refine tri_seq ?_
  refine tri_region ?_
  refine s_fieldAddr rfl rfl fd73_1 rfl rfl rfl rfl ?_
  refine s_load rfl rfl rfl rfl ty4 rfl (.inr rfl) (by conv => lhs; whnf) rfl rfl rfl ?_
  refine s_fieldAddr rfl rfl fd78_1 rfl rfl rfl rfl ?_
  refine s_store (rows' := [[.sc (.int .i64 p0.id), .sc (.bool p0.reply), .sc (.bool false), .sc (.bool false), .sc (.bool false), .sc (.bool false), .sc (.int .i64 0), .sc (.string (⟨#[]⟩ : ByteArray)), .sc (.int .i64 0), .nils, .nils, .nils]]) rfl rfl rfl rfl ty4 rfl rfl rfl rfl rfl rfl ?_
  refine rt_nil ?_
  refine tri_seq ?_
  refine tri_region ?_
  refine s_fieldAddr rfl rfl fd73_2 rfl rfl rfl rfl ?_
  refine s_load rfl rfl rfl rfl ty4 rfl (.inr rfl) (by conv => lhs; whnf) rfl rfl rfl ?_
  refine s_fieldAddr rfl rfl fd78_2 rfl rfl rfl rfl ?_
  refine s_store (rows' := [[.sc (.int .i64 p0.id), .sc (.bool p0.reply), .sc (.bool p0.auth), .sc (.bool false), .sc (.bool false), .sc (.bool false), .sc (.int .i64 0), .sc (.string (⟨#[]⟩ : ByteArray)), .sc (.int .i64 0), .nils, .nils, .nils]]) rfl rfl rfl rfl ty4 rfl rfl rfl rfl rfl rfl ?_
  refine rt_nil ?_
  refine tri_seq ?_
  refine tri_region ?_
  refine s_fieldAddr rfl rfl fd73_3 rfl rfl rfl rfl ?_
  refine s_load rfl rfl rfl rfl ty4 rfl (.inr rfl) (by conv => lhs; whnf) rfl rfl rfl ?_
  refine s_fieldAddr rfl rfl fd78_3 rfl rfl rfl rfl ?_
  refine s_store (rows' := [[.sc (.int .i64 p0.id), .sc (.bool p0.reply), .sc (.bool p0.auth), .sc (.bool p0.cut), .sc (.bool false), .sc (.bool false), .sc (.int .i64 0), .sc (.string (⟨#[]⟩ : ByteArray)), .sc (.int .i64 0), .nils, .nils, .nils]]) rfl rfl rfl rfl ty4 rfl rfl rfl rfl rfl rfl ?_
  refine rt_nil ?_
  refine tri_seq ?_
  refine tri_region ?_
  refine s_fieldAddr rfl rfl fd73_4 rfl rfl rfl rfl ?_
  refine s_load rfl rfl rfl rfl ty4 rfl (.inr rfl) (by conv => lhs; whnf) rfl rfl rfl ?_
  refine s_fieldAddr rfl rfl fd78_4 rfl rfl rfl rfl ?_
  refine s_store (rows' := [[.sc (.int .i64 p0.id), .sc (.bool p0.reply), .sc (.bool p0.auth), .sc (.bool p0.cut), .sc (.bool p0.want), .sc (.bool false), .sc (.int .i64 0), .sc (.string (⟨#[]⟩ : ByteArray)), .sc (.int .i64 0), .nils, .nils, .nils]]) rfl rfl rfl rfl ty4 rfl rfl rfl rfl rfl rfl ?_
  refine rt_nil ?_
  refine tri_seq ?_
  refine tri_region ?_
  refine s_fieldAddr rfl rfl fd73_5 rfl rfl rfl rfl ?_
  refine s_load rfl rfl rfl rfl ty4 rfl (.inr rfl) (by conv => lhs; whnf) rfl rfl rfl ?_
  refine s_fieldAddr rfl rfl fd78_5 rfl rfl rfl rfl ?_
  refine s_store (rows' := [[.sc (.int .i64 p0.id), .sc (.bool p0.reply), .sc (.bool p0.auth), .sc (.bool p0.cut), .sc (.bool p0.want), .sc (.bool p0.can), .sc (.int .i64 0), .sc (.string (⟨#[]⟩ : ByteArray)), .sc (.int .i64 0), .nils, .nils, .nils]]) rfl rfl rfl rfl ty4 rfl rfl rfl rfl rfl rfl ?_
  refine rt_nil ?_
  refine tri_seq ?_
  refine tri_region ?_
  refine s_fieldAddr rfl rfl fd73_6 rfl rfl rfl rfl ?_
  refine s_load rfl rfl rfl rfl ty3 rfl (.inr rfl) (by conv => lhs; whnf) rfl rfl rfl ?_
  refine s_fieldAddr rfl rfl fd78_6 rfl rfl rfl rfl ?_
  refine s_store (rows' := [[.sc (.int .i64 p0.id), .sc (.bool p0.reply), .sc (.bool p0.auth), .sc (.bool p0.cut), .sc (.bool p0.want), .sc (.bool p0.can), .sc (.int .i64 p0.code), .sc (.string (⟨#[]⟩ : ByteArray)), .sc (.int .i64 0), .nils, .nils, .nils]]) rfl rfl rfl rfl ty3 rfl rfl rfl rfl rfl rfl ?_
  refine rt_nil ?_
  refine tri_seq ?_
  refine tri_region ?_
  refine s_fieldAddr rfl rfl fd73_7 rfl rfl rfl rfl ?_
  refine s_load (v := .agg (questV p0.q)) rfl rfl rfl rfl ty71 rfl (.inl rfl) rfl rfl rfl rfl ?_
  refine bnd1_elim h fun x1 q2 h => ?_
  refine s_callN (kb := []) (ns := []) (v := .agg (questV x1)) rfl rfl cl86 (ww_toQuest p0.q x1 q2) rfl (.cons (relAgg rfl) .nil) trivial memNil .nil memNil rfl trivial memNil rfl rfl rfl rfl rfl rfl ?_
  refine s_fieldAddr rfl rfl fd78_7 rfl rfl rfl rfl ?_
  refine s_store (rows' := [[.sc (.int .i64 p0.id), .sc (.bool p0.reply), .sc (.bool p0.auth), .sc (.bool p0.cut), .sc (.bool p0.want), .sc (.bool p0.can), .sc (.int .i64 p0.code), .sc (.string x1.name), .sc (.int .i64 x1.ty), .nils, .nils, .nils]]) rfl rfl rfl rfl ty70 rfl rfl rfl rfl rfl rfl ?_
  refine rt_nil ?_
  refine tri_seq ?_
  refine tri_region ?_
  refine s_fieldAddr rfl rfl fd73_8 rfl rfl rfl rfl ?_
  refine s_load rfl rfl rfl rfl ty24 rfl (.inr rfl) (by conv => lhs; whnf) rfl rfl rfl ?_
  refine bnd1_elim h fun x3 q4 h => ?_
  refine s_callN (kb := []) (ns := []) (v := .ref (31, 0) 0 x3.length) rfl rfl cl19 (ww_toRecordS p0.an x3 q4) rfl (.cons (.free rfl) .nil) trivial memNil .nil memNil rfl ⟨(allSc_map recV_sc), trivial⟩ memNil rfl (by simp only [V.mat, V.mat1, V.mat0, matL, matT, List.length_map]) rfl rfl rfl rfl ?_
  refine s_fieldAddr rfl rfl fd78_8 rfl rfl rfl rfl ?_
  refine s_store (rows' := [[.sc (.int .i64 p0.id), .sc (.bool p0.reply), .sc (.bool p0.auth), .sc (.bool p0.cut), .sc (.bool p0.want), .sc (.bool p0.can), .sc (.int .i64 p0.code), .sc (.string x1.name), .sc (.int .i64 x1.ty), .ref (31, 0) 0 x3.length, .nils, .nils]]) rfl rfl rfl rfl ty27 rfl rfl rfl rfl rfl rfl ?_
  refine rt_nil ?_
  refine tri_seq ?_
  refine tri_region ?_
  refine s_fieldAddr rfl rfl fd73_9 rfl rfl rfl rfl ?_
  refine s_load rfl rfl rfl rfl ty24 rfl (.inr rfl) (by conv => lhs; whnf) rfl rfl rfl ?_
  refine bnd1_elim h fun x5 q6 h => ?_
  refine s_callN (kb := []) (ns := []) (v := .ref (35, 0) 0 x5.length) rfl rfl cl19 (ww_toRecordS p0.au x5 q6) rfl (.cons (.free rfl) .nil) trivial memNil .nil memNil rfl ⟨(allSc_map recV_sc), trivial⟩ memNil rfl (by simp only [V.mat, V.mat1, V.mat0, matL, matT, List.length_map]) rfl rfl rfl rfl ?_
  refine s_fieldAddr rfl rfl fd78_9 rfl rfl rfl rfl ?_
  refine s_store (rows' := [[.sc (.int .i64 p0.id), .sc (.bool p0.reply), .sc (.bool p0.auth), .sc (.bool p0.cut), .sc (.bool p0.want), .sc (.bool p0.can), .sc (.int .i64 p0.code), .sc (.string x1.name), .sc (.int .i64 x1.ty), .ref (31, 0) 0 x3.length, .ref (35, 0) 0 x5.length, .nils]]) rfl rfl rfl rfl ty27 rfl rfl rfl rfl rfl rfl ?_
  refine rt_nil ?_
  refine tri_seq ?_
  refine tri_region ?_
  refine s_fieldAddr rfl rfl fd73_10 rfl rfl rfl rfl ?_
  refine s_load rfl rfl rfl rfl ty24 rfl (.inr rfl) (by conv => lhs; whnf) rfl rfl rfl ?_
  refine bnd1_elim h fun x7 q8 h => ?_
  refine s_callN (kb := []) (ns := []) (v := .ref (39, 0) 0 x7.length) rfl rfl cl19 (ww_toRecordS p0.ad x7 q8) rfl (.cons (.free rfl) .nil) trivial memNil .nil memNil rfl ⟨(allSc_map recV_sc), trivial⟩ memNil rfl (by simp only [V.mat, V.mat1, V.mat0, matL, matT, List.length_map]) rfl rfl rfl rfl ?_
  refine s_fieldAddr rfl rfl fd78_10 rfl rfl rfl rfl ?_
  refine s_store (rows' := [[.sc (.int .i64 p0.id), .sc (.bool p0.reply), .sc (.bool p0.auth), .sc (.bool p0.cut), .sc (.bool p0.want), .sc (.bool p0.can), .sc (.int .i64 p0.code), .sc (.string x1.name), .sc (.int .i64 x1.ty), .ref (31, 0) 0 x3.length, .ref (35, 0) 0 x5.length, .ref (39, 0) 0 x7.length]]) rfl rfl rfl rfl ty27 rfl rfl rfl rfl rfl rfl ?_
  refine rt_nil ?_
  refine tri_seq ?_
  refine tri_region ?_
  refine s_loadR rfl rfl rfl rfl ty78 rfl rfl rfl ?_
  refine s_storeB rfl rfl rfl ty78 rfl rfl rfl rfl rfl ?_
  refine rt_nil ?_
  refine tri_ret ?_
  have e0 := (some1 h); subst e0
  exact endY (v' := .agg [.sc (.int .i64 p0.id), .sc (.bool p0.reply), .sc (.bool p0.auth), .sc (.bool p0.cut), .sc (.bool p0.want), .sc (.bool p0.can), .sc (.int .i64 p0.code), .sc (.string x1.name), .sc (.int .i64 x1.ty), .ref (2000, 9) 0 x3.length, .ref (2000, 10) 0 x5.length, .ref (2000, 11) 0 x7.length]) [((2000, 9), ⟨36, 6, List.map recV x3, false, true⟩, some (31, 0)), ((2000, 10), ⟨36, 6, List.map recV x5, false, true⟩, some (35, 0)), ((2000, 11), ⟨36, 6, List.map recV x7, false, true⟩, some (39, 0))] [] (rvC (resCell rfl rfl ty78) rvN) ⟨⟨rfl, _, rfl, rfl, rfl, rfl, id, rowsCv_eq rfl (allFree_map recV_free), rowsZ_map recV_len⟩, ⟨rfl, _, rfl, rfl, rfl, rfl, id, rowsCv_eq rfl (allFree_map recV_free), rowsZ_map recV_len⟩, ⟨rfl, _, rfl, rfl, rfl, rfl, id, rowsCv_eq rfl (allFree_map recV_free), rowsZ_map recV_len⟩, trivial⟩ trivial rfl rfl (by kernel_rfl) (by simp only [V.mat, V.mat1, V.mat0, matL, matT, List.length_map]) (CvL.agg (.cons (.free rfl) (.cons (.free rfl) (.cons (.free rfl) (.cons (.free rfl) (.cons (.free rfl) (.cons (.free rfl) (.cons (.free rfl) (.cons (.free rfl) (.cons (.free rfl) (.cons (.ref rfl) (.cons (.ref rfl) (.cons (.ref rfl) .nil)))))))))))))

/- spec.SetOf -/
def inv_s_SetOf_1 (p0 : List Rec) (p1 : ByteArray) (p2 : Int) (v0_0 : List Rec) (v0_1 : Nat) (j1_0 : Bool) : St := mkT 40 [(0, .lst 6 (List.map recV p0)), (1, .sc (.string p1)), (2, .sc (.int .i64 p2)), (7, .ref (2007, 0) 0 v0_0.length), (8, .sc (.int .i64 (v0_1 : Int))), (31, .sc (.bool j1_0))] [((2007, 0), some ⟨36, 6, List.map recV v0_0, false, true⟩)]
def inv_s_SetOf_0 (p0 : List Rec) (p1 : ByteArray) (p2 : Int) (v0_0 : List Rec) (v0_1 : Nat) : St := mkT 40 [(0, .lst 6 (List.map recV p0)), (1, .sc (.string p1)), (2, .sc (.int .i64 p2)), (7, .ref (2007, 0) 0 v0_0.length), (8, .sc (.int .i64 (v0_1 : Int)))] [((2007, 0), some ⟨36, 6, List.map recV v0_0, false, true⟩)]
set_option maxRecDepth 4000 in
set_option maxHeartbeats 800000 in
theorem ws_SetOf (p0 : List Rec) (p1 : ByteArray) (p2 : Int) (r0 : List Rec) (h : s_SetOf p0 p1 p2 = some r0) : Runs Try.prog 32 [.lst 6 (List.map recV p0), .sc (.string p1), .sc (.int .i64 p2)] [] (.own 36 6 (List.map recV r0)) [] := by
  unfold s_SetOf at h
  refine runsR [.tmp 6] Try.func32 rfl rfl rfl rfl ?_
  rw [Try.ntmps32]
  refine tri_seq ?_
  refine tri_region ?_
  refine s_mv (.inr rfl) (v := .nils) rfl rfl rfl rfl ?_
  refine rt_nil ?_
  refine tri_seq ?_
  refine tri_region ?_
  refine s_buildSlice (rows' := List.map recV ([] : List Rec)) rfl rfl rfl sl27 zc36 rfl rfl rfl rfl rfl rfl rfl rfl rfl ?_
  refine s_mv (.inr rfl) (by conv => lhs; whnf) rfl rfl rfl ?_
  refine rt_nil ?_
  refine tri_seq ?_
  refine tri_seq ?_
  refine tri_region ?_
  refine s_mv (.inr rfl) (v := .sc (.int .i64 0)) rfl rfl rfl rfl ?_
  refine rt_nil ?_
  refine tri_block ?_
  refine tri_lstM 0 rfl (fun hl0 => ?_)
  refine tri_loop (ι := { p : (List Rec) × (List Rec) × Nat // p0.drop p.2.2 = p.1 ∧ s_SetOf_l0 p1 p2 p.1 p.2.1 p.2.2 = some r0 }) (fun p => inv_s_SetOf_0 p0 p1 p2 p.1.2.1 p.1.2.2) (fun p => p.1.1.length) ⟨(p0, ([] : List Rec), 0), rfl, h⟩ ?_ ?_
  · skip
    refine entX [((2007, 0), ⟨36, 6, List.map recV ([] : List Rec), false, true⟩, some (9, 0))] [] ⟨⟨rfl, _, rfl, rfl, rfl, rfl, id, rowsCv_eq rfl (allFree_map recV_free), rowsZ_map recV_len⟩, trivial⟩ trivial rfl rfl ?_
    exact ⟨(.free rfl), (.free rfl), (.free rfl), (.ref rfl), (.free rfl), trivial⟩
  · rintro ⟨⟨lrs0, v0_0, v0_1⟩, hd0, h⟩
    replace hd0 : p0.drop v0_1 = lrs0 := hd0
    replace h : s_SetOf_l0 p1 p2 lrs0 v0_0 v0_1 = some r0 := h
    show Tri _ _ _ (inv_s_SetOf_0 p0 p1 p2 v0_0 v0_1)
    refine tri_seq ?_
    refine tri_seq ?_
    refine tri_region ?_
    refine s_mv (.inl rfl) (by conv => lhs; whnf) rfl rfl rfl ?_
    refine s_mv (.inl rfl) (by conv => lhs; whnf) rfl rfl rfl ?_
    refine s_lenL rfl sl27 rfl rfl rfl rfl ?_
    refine s_of (st_lss rfl rfl rfl) rfl rfl rfl rfl ?_
    refine rt_nil ?_
    refine tri_cond rfl (fun c1 => ?_) (fun c1 => ?_)
    · refine drop_elim hd0 c1 fun e0 rs0 he hx0 hn0 => ?_
      subst he
      rw [s_SetOf_l0] at h
      refine tri_skip ?_
      refine tri_seq ?_
      refine tri_block ?_
      refine tri_cutI (ι := { p : Bool // s_SetOf_j1 v0_0 v0_1 e0 (s_SetOf_l0 p1 p2 rs0) p = some r0 }) (fun p => inv_s_SetOf_1 p0 p1 p2 v0_0 v0_1 p.1) ?_ ?_
      · skip
        refine tri_region ?_
        refine s_mv (.inl rfl) (by conv => lhs; whnf) rfl rfl rfl ?_
        refine s_mv (.inl rfl) (by conv => lhs; whnf) rfl rfl rfl ?_
        refine s_indexF (i := v0_1) rfl rfl rfl sl27 (get_ltM hx0) rfl rfl rfl ?_
        refine s_fieldAddrF rfl rfl fd36_0 rfl rfl rfl rfl ?_
        refine s_loadF rfl rfl (rowG hx0) ty9 rfl (.inr rfl) (by conv => lhs; whnf) rfl rfl rfl ?_
        refine s_mv (.inl rfl) (by conv => lhs; whnf) rfl rfl rfl ?_
        refine s_of (st_eqS rfl rfl rfl) rfl rfl rfl rfl ?_
        refine s_mv (.inl rfl) (by conv => lhs; whnf) rfl rfl rfl ?_
        refine s_split (t := 23) rfl (fun b2 => ?_) (fun b2 => ?_)
        · replace h := cond_t h b2
          refine s_mv (.inl rfl) (by conv => lhs; whnf) rfl rfl rfl ?_
          refine s_mv (.inl rfl) (by conv => lhs; whnf) rfl rfl rfl ?_
          refine s_indexF (i := v0_1) rfl rfl rfl sl27 (get_ltM hx0) rfl rfl rfl ?_
          refine s_fieldAddrF rfl rfl fd36_1 rfl rfl rfl rfl ?_
          refine s_loadF rfl rfl (rowG hx0) ty3 rfl (.inr rfl) (by conv => lhs; whnf) rfl rfl rfl ?_
          refine s_mv (.inl rfl) (by conv => lhs; whnf) rfl rfl rfl ?_
          refine s_of (st_eqI rfl rfl rfl) rfl rfl rfl rfl ?_
          refine s_pickT rfl rfl (by conv => lhs; whnf) rfl rfl rfl ?_
          refine rt_nil ?_
          refine Exists.intro ⟨decide (e0.ty = p2), h⟩ ?_
          refine entX [((2007, 0), ⟨36, 6, List.map recV v0_0, false, true⟩, some (2007, 0))] [] ⟨⟨rfl, _, rfl, rfl, rfl, rfl, id, rowsCv_eq rfl (allFree_map recV_free), rowsZ_map recV_len⟩, trivial⟩ trivial rfl rfl ?_
          exact ⟨(.free rfl), (.free rfl), (.free rfl), (.ref rfl), (.free rfl), (.free rfl), trivial⟩
        · replace h := cond_f h b2
          refine s_skip rfl rfl rfl ?_
          refine s_skip rfl rfl rfl ?_
          refine s_skip rfl rfl rfl ?_
          refine s_skip rfl rfl rfl ?_
          refine s_skip rfl rfl rfl ?_
          refine s_skip rfl rfl rfl ?_
          refine s_skip rfl rfl rfl ?_
          refine s_pickF rfl rfl (v := .sc (.bool false)) rfl rfl rfl rfl ?_
          refine rt_nil ?_
          refine Exists.intro ⟨false, h⟩ ?_
          refine entX [((2007, 0), ⟨36, 6, List.map recV v0_0, false, true⟩, some (2007, 0))] [] ⟨⟨rfl, _, rfl, rfl, rfl, rfl, id, rowsCv_eq rfl (allFree_map recV_free), rowsZ_map recV_len⟩, trivial⟩ trivial rfl rfl ?_
          exact ⟨(.free rfl), (.free rfl), (.free rfl), (.ref rfl), (.free rfl), (.free rfl), trivial⟩
      · rintro ⟨j1_0, h⟩
        replace h : s_SetOf_j1 v0_0 v0_1 e0 (s_SetOf_l0 p1 p2 rs0) j1_0 = some r0 := h
        unfold s_SetOf_j1 at h
        show Tri _ _ _ (inv_s_SetOf_1 p0 p1 p2 v0_0 v0_1 j1_0)
        refine tri_cond rfl (fun c2 => ?_) (fun c2 => ?_)
        · replace h := cond_t h c2
          refine tri_region ?_
          refine s_mv (.inl rfl) (by conv => lhs; whnf) rfl rfl rfl ?_
          refine s_mv (.inl rfl) (by conv => lhs; whnf) rfl rfl rfl ?_
          refine s_mv (.inl rfl) (by conv => lhs; whnf) rfl rfl rfl ?_
          refine s_indexF (i := v0_1) rfl rfl rfl sl27 (get_ltM hx0) rfl rfl rfl ?_
          refine s_loadFR rfl rfl (rowG hx0) ty36 rfl rfl rfl ?_
          refine s_buildSlice (rows' := List.map recV [e0]) rfl rfl rfl sl27 zc36 rfl rfl rfl rfl rfl rfl rfl rfl rfl ?_
          refine grd_elim h fun g3 h => ?_
          refine s_appL rfl rfl rfl sl27 zc36 rfl rfl rfl rfl rfl rfl (src_refL rfl rfl) g3 rfl rfl ?_
          refine s_mv (.inr rfl) (by conv => lhs; whnf) rfl rfl rfl ?_
          refine rt_nil ?_
          refine tri_region ?_
          refine s_mv (.inl rfl) (by conv => lhs; whnf) rfl rfl rfl ?_
          refine s_inc (a := v0_1) (b := 1) rfl rfl rfl rfl (by have := get_lt hx0; have := hl0; omega) rfl rfl rfl ?_
          refine s_mv (.inr rfl) (by conv => lhs; whnf) rfl rfl rfl ?_
          refine rt_nil ?_
          refine Exists.intro ⟨(rs0, v0_0 ++ [e0], (v0_1 + 1)), hn0, h⟩ (And.intro (Nat.lt_succ_self _) ?_)
          refine entX [((2007, 0), ⟨36, 6, List.map recV (v0_0 ++ [e0]), false, true⟩, some (38, 0))] [] ⟨⟨rfl, _, rfl, rfl, rfl, rfl, id, rowsCv_eq rfl (allFree_map recV_free), rowsZ_map recV_len⟩, trivial⟩ trivial rfl rfl ?_
          exact ⟨(.free rfl), (.free rfl), (.free rfl), (.ref rfl), (.free rfl), trivial⟩
        · replace h := cond_f h c2
          refine tri_skip ?_
          refine tri_region ?_
          refine s_mv (.inl rfl) (by conv => lhs; whnf) rfl rfl rfl ?_
          refine s_inc (a := v0_1) (b := 1) rfl rfl rfl rfl (by have := get_lt hx0; have := hl0; omega) rfl rfl rfl ?_
          refine s_mv (.inr rfl) (by conv => lhs; whnf) rfl rfl rfl ?_
          refine rt_nil ?_
          refine Exists.intro ⟨(rs0, v0_0, (v0_1 + 1)), hn0, h⟩ (And.intro (Nat.lt_succ_self _) ?_)
          refine entX [((2007, 0), ⟨36, 6, List.map recV v0_0, false, true⟩, some (2007, 0))] [] ⟨⟨rfl, _, rfl, rfl, rfl, rfl, id, rowsCv_eq rfl (allFree_map recV_free), rowsZ_map recV_len⟩, trivial⟩ trivial rfl rfl ?_
          exact ⟨(.free rfl), (.free rfl), (.free rfl), (.ref rfl), (.free rfl), trivial⟩
    · have he := drop_f hd0 c1; subst he
      rw [s_SetOf_l0] at h
      refine tri_exit ?_
      refine tri_seq ?_
      refine tri_region ?_
      refine s_mv (.inl rfl) (by conv => lhs; whnf) rfl rfl rfl ?_
      refine s_mv (.inr rfl) (by conv => lhs; whnf) rfl rfl rfl ?_
      refine rt_nil ?_
      refine tri_ret ?_
      have e0 := (some1 h); subst e0
      exact endY (v' := .ref (2000, 0) 0 v0_0.length) [((2000, 0), ⟨36, 6, List.map recV v0_0, false, true⟩, some (2007, 0))] [] (rvC (resTmp rfl) rvN) ⟨⟨rfl, _, rfl, rfl, rfl, rfl, id, rowsCv_eq rfl (allFree_map recV_free), rowsZ_map recV_len⟩, trivial⟩ trivial rfl rfl (by kernel_rfl) (by simp only [V.mat, V.mat1, V.mat0, matL, matT, List.length_map]) (.ref rfl)

/- spec.AliasIn -/

set_option maxRecDepth 4000 in
set_option maxHeartbeats 800000 in
theorem ws_AliasIn (p0 : MMsg) (r0 : Rec) (r1 : Bool) (h : s_AliasIn p0 = some (r0, r1)) : Runs Try.prog 59 [.agg (mMsgV p0)] [] (.tup [.agg (recV r0), .sc (.bool r1)]) [] := by
  unfold s_AliasIn at h
  refine runsR [.cell 2 36, .tmp 3] Try.func59 rfl rfl rfl rfl ?_
  rw [Try.ntmps59]
  refine tri_seq ?_
  refine tri_region ?_
  refine s_box rfl rfl rfl rfl rfl rfl rfl ?_
  refine s_alloc rfl rfl rfl zc36 rfl rfl rfl rfl rfl ?_
  refine s_mv (.inr rfl) (v := .sc (.bool false)) rfl rfl rfl rfl ?_
  refine rt_nil ?_
  refine tri_seq ?_
  refine tri_region ?_
  refine s_fieldAddr rfl rfl fd78_8 rfl rfl rfl rfl ?_
  refine s_load rfl rfl rfl rfl ty27 rfl (.inr rfl) (by conv => lhs; whnf) rfl rfl rfl ?_
  refine s_fieldAddr rfl rfl fd78_7 rfl rfl rfl rfl ?_
  refine s_fieldAddr rfl rfl fd70_0 rfl rfl rfl rfl ?_
  refine s_load rfl rfl rfl rfl ty9 rfl (.inr rfl) (by conv => lhs; whnf) rfl rfl rfl ?_
  refine bnd1_elim h fun x1 q2 h => ?_
  refine s_callN (kb := []) (ns := []) (v := .ref (10, 0) 0 x1.length) rfl rfl cl32 (ws_SetOf p0.an p0.q.name 5 x1 q2) rfl (.cons (.free rfl) (.cons (.free rfl) (.cons (.free rfl) .nil))) trivial memNil .nil memNil rfl ⟨(allSc_map recV_sc), trivial⟩ memNil rfl (by simp only [V.mat, V.mat1, V.mat0, matL, matT, List.length_map]) rfl rfl rfl rfl ?_
  refine s_mv (.inr rfl) (by conv => lhs; whnf) rfl rfl rfl ?_
  refine rt_nil ?_
  refine tri_seq ?_
  refine tri_seq ?_
  refine tri_region ?_
  refine s_mv (.inl rfl) (by conv => lhs; whnf) rfl rfl rfl ?_
  refine s_len (m := x1.length) rfl sl27 rfl rfl rfl rfl ?_
  refine s_of (st_eqI rfl rfl rfl) rfl rfl rfl rfl ?_
  refine rt_nil ?_
  refine tri_cond rfl (fun c3 => ?_) (fun c3 => ?_)
  · replace h := cond_t h c3
    refine tri_seq ?_
    refine tri_region ?_
    refine s_build (cells' := [.sc (.string (⟨#[]⟩ : ByteArray)), .sc (.int .i64 0), .sc (.int .i64 0), .sc (.int .i64 0), .sc (.string (⟨#[]⟩ : ByteArray)), .sc (.string (⟨#[]⟩ : ByteArray))]) rfl stc36 rfl rfl rfl rfl rfl rfl rfl ?_
    refine s_storeB rfl rfl rfl ty36 rfl rfl rfl rfl rfl ?_
    refine s_mv (.inr rfl) (v := .sc (.bool false)) rfl rfl rfl rfl ?_
    refine rt_nil ?_
    refine tri_ret ?_
    have e0 := (some2 h).1; have e1 := (some2 h).2; subst e0; subst e1
    exact endY [] [] (rvC (resCell rfl rfl ty36) (rvC (resTmp rfl) rvN)) trivial trivial rfl rfl rfl rfl (CvL.tup (.cons (cvAgg rfl) (.cons (.free rfl) .nil)))
  · replace h := cond_f h c3
    refine tri_skip ?_
    refine tri_seq ?_
    refine tri_region ?_
    refine s_mv (.inl rfl) (by conv => lhs; whnf) rfl rfl rfl ?_
    refine bnd1_elim h fun x4 q5 h => ?_
    have q5a := (idx_some q5).1; have q5b := (idx_some q5).2
    refine s_indexZ rfl rfl rfl rfl sl27 rfl q5a (get_lt q5b) rfl rfl rfl ?_
    refine s_loadR rfl rfl rfl (rowG q5b) ty36 rfl rfl rfl ?_
    refine s_storeB rfl rfl rfl ty36 rfl rfl rfl rfl rfl ?_
    refine s_mv (.inr rfl) (v := .sc (.bool true)) rfl rfl rfl rfl ?_
    refine rt_nil ?_
    refine tri_ret ?_
    have e0 := (some2 h).1; have e1 := (some2 h).2; subst e0; subst e1
    exact endY [] [] (rvC (resCell rfl rfl ty36) (rvC (resTmp rfl) rvN)) trivial trivial rfl rfl rfl rfl (CvL.tup (.cons (cvAgg rfl) (.cons (.free rfl) .nil)))

/- impl.SetOf -/
def inv_i_SetOf_1 (p0 : List Rec) (p1 : ByteArray) (p2 : Int) (v0_0 : List Rec) (v0_1 : Nat) (e0 : Rec) (j1_0 : Bool) : St := mkT 33 [(1, .sc (.string p1)), (2, .sc (.int .i64 p2)), (7, .ref (2007, 0) 0 v0_0.length), (9, .ptr (9, 0) 0 0), (11, .lst 6 (List.map recV p0)), (12, .sc (.int .i64 (p0.length : Int))), (13, .sc (.int .i64 (v0_1 : Int))), (26, .sc (.bool j1_0))] [((2007, 0), some ⟨36, 6, List.map recV v0_0, false, true⟩), ((9, 0), some ⟨36, 6, [[.sc (.string e0.name), .sc (.int .i64 e0.ty), .sc (.int .i64 e0.ttl), .sc (.int .i64 e0.n), .sc (.string e0.host), .sc (.string e0.text)]], false, true⟩)]
def inv_i_SetOf_0 (p0 : List Rec) (p1 : ByteArray) (p2 : Int) (v0_0 : List Rec) (v0_1 : Nat) : St := mkT 33 [(1, .sc (.string p1)), (2, .sc (.int .i64 p2)), (7, .ref (2007, 0) 0 v0_0.length), (11, .lst 6 (List.map recV p0)), (12, .sc (.int .i64 (p0.length : Int))), (13, .sc (.int .i64 (v0_1 : Int)))] [((2007, 0), some ⟨36, 6, List.map recV v0_0, false, true⟩)]
set_option maxRecDepth 4000 in
set_option maxHeartbeats 800000 in
theorem wi_SetOf (p0 : List Rec) (p1 : ByteArray) (p2 : Int) (r0 : List Rec) (h : i_SetOf p0 p1 p2 = some r0) : Runs Try.prog 33 [.lst 6 (List.map recV p0), .sc (.string p1), .sc (.int .i64 p2)] [] (.own 36 6 (List.map recV r0)) [] := by
  unfold i_SetOf at h
  refine runsR [.tmp 6] Try.func33 rfl rfl rfl rfl ?_
  rw [Try.ntmps33]
  refine tri_seq ?_
  refine tri_region ?_
  refine s_mv (.inr rfl) (v := .nils) rfl rfl rfl rfl ?_
  refine rt_nil ?_
  refine tri_seq ?_
  refine tri_region ?_
  refine s_buildSlice (rows' := List.map recV ([] : List Rec)) rfl rfl rfl sl27 zc36 rfl rfl rfl rfl rfl rfl rfl rfl rfl ?_
  refine s_mv (.inr rfl) (by conv => lhs; whnf) rfl rfl rfl ?_
  refine rt_nil ?_
  refine tri_seq ?_
  refine tri_seq ?_
  refine tri_region ?_
  refine s_mv (.inl rfl) (by conv => lhs; whnf) rfl rfl rfl ?_
  refine s_lenL rfl sl27 rfl rfl rfl rfl ?_
  refine s_mv (.inl rfl) (v := .sc (.int .i64 0)) rfl rfl rfl rfl ?_
  refine rt_nil ?_
  refine tri_block ?_
  refine tri_lstM 0 rfl (fun hl0 => ?_)
  refine tri_loop (ι := { p : (List Rec) × (List Rec) × Nat // p0.drop p.2.2 = p.1 ∧ i_SetOf_l0 p1 p2 p.1 p.2.1 p.2.2 = some r0 }) (fun p => inv_i_SetOf_0 p0 p1 p2 p.1.2.1 p.1.2.2) (fun p => p.1.1.length) ⟨(p0, ([] : List Rec), 0), rfl, h⟩ ?_ ?_
  · skip
    refine entX [((2007, 0), ⟨36, 6, List.map recV ([] : List Rec), false, true⟩, some (10, 0))] [] ⟨⟨rfl, _, rfl, rfl, rfl, rfl, id, rowsCv_eq rfl (allFree_map recV_free), rowsZ_map recV_len⟩, trivial⟩ trivial rfl rfl ?_
    exact ⟨(.free rfl), (.free rfl), (.ref rfl), (.free rfl), (.free rfl), (.free rfl), trivial⟩
  · rintro ⟨⟨lrs0, v0_0, v0_1⟩, hd0, h⟩
    replace hd0 : p0.drop v0_1 = lrs0 := hd0
    replace h : i_SetOf_l0 p1 p2 lrs0 v0_0 v0_1 = some r0 := h
    show Tri _ _ _ (inv_i_SetOf_0 p0 p1 p2 v0_0 v0_1)
    refine tri_seq ?_
    refine tri_region ?_
    refine s_of (st_lss rfl rfl rfl) rfl rfl rfl rfl ?_
    refine rt_nil ?_
    refine tri_seq ?_
    refine tri_cond rfl (fun c1 => ?_) (fun c1 => ?_)
    · refine drop_elim hd0 c1 fun e0 rs0 he hx0 hn0 => ?_
      subst he
      rw [i_SetOf_l0] at h
      refine tri_skip ?_
      refine tri_seq ?_
      refine tri_block ?_
      refine tri_seq ?_
      refine tri_region ?_
      refine s_indexF (i := v0_1) rfl rfl rfl sl27 (get_ltM hx0) rfl rfl rfl ?_
      refine s_loadFR rfl rfl (rowG hx0) ty36 rfl rfl rfl ?_
      refine s_alloc rfl rfl rfl zc36 rfl rfl rfl rfl rfl ?_
      refine s_storeB rfl rfl rfl ty36 rfl rfl rfl rfl rfl ?_
      refine rt_nil ?_
      refine tri_cutI (ι := { p : Bool // i_SetOf_j1 v0_0 v0_1 e0 (i_SetOf_l0 p1 p2 rs0) p = some r0 }) (fun p => inv_i_SetOf_1 p0 p1 p2 v0_0 v0_1 e0 p.1) ?_ ?_
      · skip
        refine tri_region ?_
        refine s_fieldAddr rfl rfl fd36_0 rfl rfl rfl rfl ?_
        refine s_load rfl rfl rfl rfl ty9 rfl (.inr rfl) (by conv => lhs; whnf) rfl rfl rfl ?_
        refine s_mv (.inl rfl) (by conv => lhs; whnf) rfl rfl rfl ?_
        refine s_of (st_eqS rfl rfl rfl) rfl rfl rfl rfl ?_
        refine s_mv (.inl rfl) (by conv => lhs; whnf) rfl rfl rfl ?_
        refine s_split (t := 21) rfl (fun b2 => ?_) (fun b2 => ?_)
        · replace h := cond_t h b2
          refine s_fieldAddr rfl rfl fd36_1 rfl rfl rfl rfl ?_
          refine s_load rfl rfl rfl rfl ty3 rfl (.inr rfl) (by conv => lhs; whnf) rfl rfl rfl ?_
          refine s_mv (.inl rfl) (by conv => lhs; whnf) rfl rfl rfl ?_
          refine s_of (st_eqI rfl rfl rfl) rfl rfl rfl rfl ?_
          refine s_pickT rfl rfl (by conv => lhs; whnf) rfl rfl rfl ?_
          refine rt_nil ?_
          refine Exists.intro ⟨decide (e0.ty = p2), h⟩ ?_
          refine entX [((2007, 0), ⟨36, 6, List.map recV v0_0, false, true⟩, some (2007, 0)), ((9, 0), ⟨36, 6, [[.sc (.string e0.name), .sc (.int .i64 e0.ty), .sc (.int .i64 e0.ttl), .sc (.int .i64 e0.n), .sc (.string e0.host), .sc (.string e0.text)]], false, true⟩, some (9, 0))] [] ⟨⟨rfl, _, rfl, rfl, rfl, rfl, id, rowsCv_eq rfl (allFree_map recV_free), rowsZ_map recV_len⟩, ⟨rfl, _, rfl, rfl, rfl, rfl, id, rowsCv_one (.cons (.free rfl) (.cons (.free rfl) (.cons (.free rfl) (.cons (.free rfl) (.cons (.free rfl) (.cons (.free rfl) .nil)))))), rowsZ_one rfl⟩, trivial⟩ trivial rfl rfl ?_
          exact ⟨(.free rfl), (.free rfl), (.ref rfl), (.ptr rfl), (.free rfl), (.free rfl), (.free rfl), (.free rfl), trivial⟩
        · replace h := cond_f h b2
          refine s_skip rfl rfl rfl ?_
          refine s_skip rfl rfl rfl ?_
          refine s_skip rfl rfl rfl ?_
          refine s_skip rfl rfl rfl ?_
          refine s_pickF rfl rfl (v := .sc (.bool false)) rfl rfl rfl rfl ?_
          refine rt_nil ?_
          refine Exists.intro ⟨false, h⟩ ?_
          refine entX [((2007, 0), ⟨36, 6, List.map recV v0_0, false, true⟩, some (2007, 0)), ((9, 0), ⟨36, 6, [[.sc (.string e0.name), .sc (.int .i64 e0.ty), .sc (.int .i64 e0.ttl), .sc (.int .i64 e0.n), .sc (.string e0.host), .sc (.string e0.text)]], false, true⟩, some (9, 0))] [] ⟨⟨rfl, _, rfl, rfl, rfl, rfl, id, rowsCv_eq rfl (allFree_map recV_free), rowsZ_map recV_len⟩, ⟨rfl, _, rfl, rfl, rfl, rfl, id, rowsCv_one (.cons (.free rfl) (.cons (.free rfl) (.cons (.free rfl) (.cons (.free rfl) (.cons (.free rfl) (.cons (.free rfl) .nil)))))), rowsZ_one rfl⟩, trivial⟩ trivial rfl rfl ?_
          exact ⟨(.free rfl), (.free rfl), (.ref rfl), (.ptr rfl), (.free rfl), (.free rfl), (.free rfl), (.free rfl), trivial⟩
      · rintro ⟨j1_0, h⟩
        replace h : i_SetOf_j1 v0_0 v0_1 e0 (i_SetOf_l0 p1 p2 rs0) j1_0 = some r0 := h
        unfold i_SetOf_j1 at h
        show Tri _ _ _ (inv_i_SetOf_1 p0 p1 p2 v0_0 v0_1 e0 j1_0)
        refine tri_cond rfl (fun c2 => ?_) (fun c2 => ?_)
        · replace h := cond_t h c2
          refine tri_region ?_
          refine s_mv (.inl rfl) (by conv => lhs; whnf) rfl rfl rfl ?_
          refine s_loadR rfl rfl rfl rfl ty36 rfl rfl rfl ?_
          refine s_buildSlice (rows' := List.map recV [e0]) rfl rfl rfl sl27 zc36 rfl rfl rfl rfl rfl rfl rfl rfl rfl ?_
          refine grd_elim h fun g3 h => ?_
          refine s_appL rfl rfl rfl sl27 zc36 rfl rfl rfl rfl rfl rfl (src_refL rfl rfl) g3 rfl rfl ?_
          refine s_mv (.inr rfl) (by conv => lhs; whnf) rfl rfl rfl ?_
          refine rt_nil ?_
          refine tri_region ?_
          refine s_inc (a := v0_1) (b := 1) rfl rfl rfl rfl (by have := get_lt hx0; have := hl0; omega) rfl rfl rfl ?_
          refine s_mv (.inl rfl) (by conv => lhs; whnf) rfl rfl rfl ?_
          refine rt_nil ?_
          refine Exists.intro ⟨(rs0, v0_0 ++ [e0], (v0_1 + 1)), hn0, h⟩ (And.intro (Nat.lt_succ_self _) ?_)
          refine entX [((2007, 0), ⟨36, 6, List.map recV (v0_0 ++ [e0]), false, true⟩, some (30, 0))] [] ⟨⟨rfl, _, rfl, rfl, rfl, rfl, id, rowsCv_eq rfl (allFree_map recV_free), rowsZ_map recV_len⟩, trivial⟩ trivial rfl rfl ?_
          exact ⟨(.free rfl), (.free rfl), (.ref rfl), (.free rfl), (.free rfl), (.free rfl), trivial⟩
        · replace h := cond_f h c2
          refine tri_skip ?_
          refine tri_region ?_
          refine s_inc (a := v0_1) (b := 1) rfl rfl rfl rfl (by have := get_lt hx0; have := hl0; omega) rfl rfl rfl ?_
          refine s_mv (.inl rfl) (by conv => lhs; whnf) rfl rfl rfl ?_
          refine rt_nil ?_
          refine Exists.intro ⟨(rs0, v0_0, (v0_1 + 1)), hn0, h⟩ (And.intro (Nat.lt_succ_self _) ?_)
          refine entX [((2007, 0), ⟨36, 6, List.map recV v0_0, false, true⟩, some (2007, 0))] [] ⟨⟨rfl, _, rfl, rfl, rfl, rfl, id, rowsCv_eq rfl (allFree_map recV_free), rowsZ_map recV_len⟩, trivial⟩ trivial rfl rfl ?_
          exact ⟨(.free rfl), (.free rfl), (.ref rfl), (.free rfl), (.free rfl), (.free rfl), trivial⟩
    · have he := drop_f hd0 c1; subst he
      rw [i_SetOf_l0] at h
      refine tri_exit ?_
      refine tri_seq ?_
      refine tri_region ?_
      refine s_mv (.inl rfl) (by conv => lhs; whnf) rfl rfl rfl ?_
      refine s_mv (.inr rfl) (by conv => lhs; whnf) rfl rfl rfl ?_
      refine rt_nil ?_
      refine tri_ret ?_
      have e0 := (some1 h); subst e0
      exact endY (v' := .ref (2000, 0) 0 v0_0.length) [((2000, 0), ⟨36, 6, List.map recV v0_0, false, true⟩, some (2007, 0))] [] (rvC (resTmp rfl) rvN) ⟨⟨rfl, _, rfl, rfl, rfl, rfl, id, rowsCv_eq rfl (allFree_map recV_free), rowsZ_map recV_len⟩, trivial⟩ trivial rfl rfl (by kernel_rfl) (by simp only [V.mat, V.mat1, V.mat0, matL, matT, List.length_map]) (.ref rfl)

/- impl.AliasIn -/

set_option maxRecDepth 4000 in
set_option maxHeartbeats 800000 in
theorem wi_AliasIn (p0 : MMsg) (r0 : Rec) (r1 : Bool) (h : i_AliasIn p0 = some (r0, r1)) : Runs Try.prog 61 [.agg (mMsgV p0)] [] (.tup [.agg (recV r0), .sc (.bool r1)]) [] := by
  unfold i_AliasIn at h
  refine runsR [.cell 2 36, .tmp 3] Try.func61 rfl rfl rfl rfl ?_
  rw [Try.ntmps61]
  refine tri_seq ?_
  refine tri_region ?_
  refine s_box rfl rfl rfl rfl rfl rfl rfl ?_
  refine s_alloc rfl rfl rfl zc36 rfl rfl rfl rfl rfl ?_
  refine s_mv (.inr rfl) (v := .sc (.bool false)) rfl rfl rfl rfl ?_
  refine rt_nil ?_
  refine tri_seq ?_
  refine tri_region ?_
  refine s_fieldAddr rfl rfl fd78_8 rfl rfl rfl rfl ?_
  refine s_load rfl rfl rfl rfl ty27 rfl (.inr rfl) (by conv => lhs; whnf) rfl rfl rfl ?_
  refine s_fieldAddr rfl rfl fd78_7 rfl rfl rfl rfl ?_
  refine s_fieldAddr rfl rfl fd70_0 rfl rfl rfl rfl ?_
  refine s_load rfl rfl rfl rfl ty9 rfl (.inr rfl) (by conv => lhs; whnf) rfl rfl rfl ?_
  refine bnd1_elim h fun x1 q2 h => ?_
  refine s_callN (kb := []) (ns := []) (v := .ref (10, 0) 0 x1.length) rfl rfl cl33 (wi_SetOf p0.an p0.q.name 5 x1 q2) rfl (.cons (.free rfl) (.cons (.free rfl) (.cons (.free rfl) .nil))) trivial memNil .nil memNil rfl ⟨(allSc_map recV_sc), trivial⟩ memNil rfl (by simp only [V.mat, V.mat1, V.mat0, matL, matT, List.length_map]) rfl rfl rfl rfl ?_
  refine s_mv (.inr rfl) (by conv => lhs; whnf) rfl rfl rfl ?_
  refine rt_nil ?_
  refine tri_seq ?_
  refine tri_seq ?_
  refine tri_region ?_
  refine s_mv (.inl rfl) (by conv => lhs; whnf) rfl rfl rfl ?_
  refine s_len (m := x1.length) rfl sl27 rfl rfl rfl rfl ?_
  refine s_of (st_eqI rfl rfl rfl) rfl rfl rfl rfl ?_
  refine rt_nil ?_
  refine tri_cond rfl (fun c3 => ?_) (fun c3 => ?_)
  · replace h := cond_t h c3
    refine tri_seq ?_
    refine tri_region ?_
    refine s_build (cells' := [.sc (.string (⟨#[]⟩ : ByteArray)), .sc (.int .i64 0), .sc (.int .i64 0), .sc (.int .i64 0), .sc (.string (⟨#[]⟩ : ByteArray)), .sc (.string (⟨#[]⟩ : ByteArray))]) rfl stc36 rfl rfl rfl rfl rfl rfl rfl ?_
    refine s_storeB rfl rfl rfl ty36 rfl rfl rfl rfl rfl ?_
    refine s_mv (.inr rfl) (v := .sc (.bool false)) rfl rfl rfl rfl ?_
    refine rt_nil ?_
    refine tri_ret ?_
    have e0 := (some2 h).1; have e1 := (some2 h).2; subst e0; subst e1
    exact endY [] [] (rvC (resCell rfl rfl ty36) (rvC (resTmp rfl) rvN)) trivial trivial rfl rfl rfl rfl (CvL.tup (.cons (cvAgg rfl) (.cons (.free rfl) .nil)))
  · replace h := cond_f h c3
    refine tri_skip ?_
    refine tri_seq ?_
    refine tri_region ?_
    refine s_mv (.inl rfl) (by conv => lhs; whnf) rfl rfl rfl ?_
    refine bnd1_elim h fun x4 q5 h => ?_
    have q5a := (idx_some q5).1; have q5b := (idx_some q5).2
    refine s_indexZ rfl rfl rfl rfl sl27 rfl q5a (get_lt q5b) rfl rfl rfl ?_
    refine s_loadR rfl rfl rfl (rowG q5b) ty36 rfl rfl rfl ?_
    refine s_storeB rfl rfl rfl ty36 rfl rfl rfl rfl rfl ?_
    refine s_mv (.inr rfl) (v := .sc (.bool true)) rfl rfl rfl rfl ?_
    refine rt_nil ?_
    refine tri_ret ?_
    have e0 := (some2 h).1; have e1 := (some2 h).2; subst e0; subst e1
    exact endY [] [] (rvC (resCell rfl rfl ty36) (rvC (resTmp rfl) rvN)) trivial trivial rfl rfl rfl rfl (CvL.tup (.cons (cvAgg rfl) (.cons (.free rfl) .nil)))

/- laws.eqRecord -/

set_option maxRecDepth 4000 in
set_option maxHeartbeats 800000 in
theorem ww_eqRecord (p0 : Rec) (p1 : Rec) (r0 : Bool) (h : w_eqRecord p0 p1 = some r0) : Runs Try.prog 28 [.agg (recV p0), .agg (recV p1)] [] (.sc (.bool r0)) [] := by
  unfold w_eqRecord at h
  refine runsR [.tmp 4] Try.func28 rfl rfl rfl rfl ?_
  rw [Try.ntmps28]
  refine tri_seq ?_
  refine tri_region ?_
  refine s_box rfl rfl rfl rfl rfl rfl rfl ?_
  refine s_box rfl rfl rfl rfl rfl rfl rfl ?_
  refine s_mv (.inr rfl) (v := .sc (.bool false)) rfl rfl rfl rfl ?_
  refine rt_nil ?_
  refine tri_seq ?_
  refine tri_seq ?_
  refine tri_region ?_
  refine s_fieldAddr rfl rfl fd36_0 rfl rfl rfl rfl ?_
  refine s_load rfl rfl rfl rfl ty9 rfl (.inr rfl) (by conv => lhs; whnf) rfl rfl rfl ?_
  refine s_fieldAddr rfl rfl fd36_0 rfl rfl rfl rfl ?_
  refine s_load rfl rfl rfl rfl ty9 rfl (.inr rfl) (by conv => lhs; whnf) rfl rfl rfl ?_
  refine s_of (st_neS rfl rfl rfl) rfl rfl rfl rfl ?_
  refine rt_nil ?_
  refine tri_cond rfl (fun c1 => ?_) (fun c1 => ?_)
  · replace h := cond_t h c1
    refine tri_seq ?_
    refine tri_region ?_
    refine s_mv (.inr rfl) (v := .sc (.bool false)) rfl rfl rfl rfl ?_
    refine rt_nil ?_
    refine tri_ret ?_
    have e0 := (some1 h); subst e0
    exact endY [] [] (rvC (resTmp rfl) rvN) trivial trivial rfl rfl rfl rfl (.free rfl)
  · replace h := cond_f h c1
    refine tri_skip ?_
    refine tri_seq ?_
    refine tri_seq ?_
    refine tri_region ?_
    refine s_fieldAddr rfl rfl fd36_1 rfl rfl rfl rfl ?_
    refine s_load rfl rfl rfl rfl ty3 rfl (.inr rfl) (by conv => lhs; whnf) rfl rfl rfl ?_
    refine s_fieldAddr rfl rfl fd36_1 rfl rfl rfl rfl ?_
    refine s_load rfl rfl rfl rfl ty3 rfl (.inr rfl) (by conv => lhs; whnf) rfl rfl rfl ?_
    refine s_of (st_neI rfl rfl rfl) rfl rfl rfl rfl ?_
    refine rt_nil ?_
    refine tri_cond rfl (fun c2 => ?_) (fun c2 => ?_)
    · replace h := cond_t h c2
      refine tri_seq ?_
      refine tri_region ?_
      refine s_mv (.inr rfl) (v := .sc (.bool false)) rfl rfl rfl rfl ?_
      refine rt_nil ?_
      refine tri_ret ?_
      have e0 := (some1 h); subst e0
      exact endY [] [] (rvC (resTmp rfl) rvN) trivial trivial rfl rfl rfl rfl (.free rfl)
    · replace h := cond_f h c2
      refine tri_skip ?_
      refine tri_seq ?_
      refine tri_seq ?_
      refine tri_region ?_
      refine s_fieldAddr rfl rfl fd36_2 rfl rfl rfl rfl ?_
      refine s_load rfl rfl rfl rfl ty3 rfl (.inr rfl) (by conv => lhs; whnf) rfl rfl rfl ?_
      refine s_fieldAddr rfl rfl fd36_2 rfl rfl rfl rfl ?_
      refine s_load rfl rfl rfl rfl ty3 rfl (.inr rfl) (by conv => lhs; whnf) rfl rfl rfl ?_
      refine s_of (st_neI rfl rfl rfl) rfl rfl rfl rfl ?_
      refine rt_nil ?_
      refine tri_cond rfl (fun c3 => ?_) (fun c3 => ?_)
      · replace h := cond_t h c3
        refine tri_seq ?_
        refine tri_region ?_
        refine s_mv (.inr rfl) (v := .sc (.bool false)) rfl rfl rfl rfl ?_
        refine rt_nil ?_
        refine tri_ret ?_
        have e0 := (some1 h); subst e0
        exact endY [] [] (rvC (resTmp rfl) rvN) trivial trivial rfl rfl rfl rfl (.free rfl)
      · replace h := cond_f h c3
        refine tri_skip ?_
        refine tri_seq ?_
        refine tri_seq ?_
        refine tri_region ?_
        refine s_fieldAddr rfl rfl fd36_3 rfl rfl rfl rfl ?_
        refine s_load rfl rfl rfl rfl ty3 rfl (.inr rfl) (by conv => lhs; whnf) rfl rfl rfl ?_
        refine s_fieldAddr rfl rfl fd36_3 rfl rfl rfl rfl ?_
        refine s_load rfl rfl rfl rfl ty3 rfl (.inr rfl) (by conv => lhs; whnf) rfl rfl rfl ?_
        refine s_of (st_neI rfl rfl rfl) rfl rfl rfl rfl ?_
        refine rt_nil ?_
        refine tri_cond rfl (fun c4 => ?_) (fun c4 => ?_)
        · replace h := cond_t h c4
          refine tri_seq ?_
          refine tri_region ?_
          refine s_mv (.inr rfl) (v := .sc (.bool false)) rfl rfl rfl rfl ?_
          refine rt_nil ?_
          refine tri_ret ?_
          have e0 := (some1 h); subst e0
          exact endY [] [] (rvC (resTmp rfl) rvN) trivial trivial rfl rfl rfl rfl (.free rfl)
        · replace h := cond_f h c4
          refine tri_skip ?_
          refine tri_seq ?_
          refine tri_seq ?_
          refine tri_region ?_
          refine s_fieldAddr rfl rfl fd36_4 rfl rfl rfl rfl ?_
          refine s_load rfl rfl rfl rfl ty9 rfl (.inr rfl) (by conv => lhs; whnf) rfl rfl rfl ?_
          refine s_fieldAddr rfl rfl fd36_4 rfl rfl rfl rfl ?_
          refine s_load rfl rfl rfl rfl ty9 rfl (.inr rfl) (by conv => lhs; whnf) rfl rfl rfl ?_
          refine s_of (st_neS rfl rfl rfl) rfl rfl rfl rfl ?_
          refine rt_nil ?_
          refine tri_cond rfl (fun c5 => ?_) (fun c5 => ?_)
          · replace h := cond_t h c5
            refine tri_seq ?_
            refine tri_region ?_
            refine s_mv (.inr rfl) (v := .sc (.bool false)) rfl rfl rfl rfl ?_
            refine rt_nil ?_
            refine tri_ret ?_
            have e0 := (some1 h); subst e0
            exact endY [] [] (rvC (resTmp rfl) rvN) trivial trivial rfl rfl rfl rfl (.free rfl)
          · replace h := cond_f h c5
            refine tri_skip ?_
            refine tri_seq ?_
            refine tri_seq ?_
            refine tri_region ?_
            refine s_fieldAddr rfl rfl fd36_5 rfl rfl rfl rfl ?_
            refine s_load rfl rfl rfl rfl ty9 rfl (.inr rfl) (by conv => lhs; whnf) rfl rfl rfl ?_
            refine s_fieldAddr rfl rfl fd36_5 rfl rfl rfl rfl ?_
            refine s_load rfl rfl rfl rfl ty9 rfl (.inr rfl) (by conv => lhs; whnf) rfl rfl rfl ?_
            refine s_of (st_neS rfl rfl rfl) rfl rfl rfl rfl ?_
            refine rt_nil ?_
            refine tri_cond rfl (fun c6 => ?_) (fun c6 => ?_)
            · replace h := cond_t h c6
              refine tri_seq ?_
              refine tri_region ?_
              refine s_mv (.inr rfl) (v := .sc (.bool false)) rfl rfl rfl rfl ?_
              refine rt_nil ?_
              refine tri_ret ?_
              have e0 := (some1 h); subst e0
              exact endY [] [] (rvC (resTmp rfl) rvN) trivial trivial rfl rfl rfl rfl (.free rfl)
            · replace h := cond_f h c6
              refine tri_skip ?_
              refine tri_seq ?_
              refine tri_region ?_
              refine s_mv (.inr rfl) (v := .sc (.bool true)) rfl rfl rfl rfl ?_
              refine rt_nil ?_
              refine tri_ret ?_
              have e0 := (some1 h); subst e0
              exact endY [] [] (rvC (resTmp rfl) rvN) trivial trivial rfl rfl rfl rfl (.free rfl)

/- laws.eqQuest -/

set_option maxRecDepth 4000 in
set_option maxHeartbeats 800000 in
theorem ww_eqQuest (p0 : Quest) (p1 : Quest) (r0 : Bool) (h : w_eqQuest p0 p1 = some r0) : Runs Try.prog 79 [.agg (questV p0), .agg (questV p1)] [] (.sc (.bool r0)) [] := by
  unfold w_eqQuest at h
  refine runsR [.tmp 4] Try.func79 rfl rfl rfl rfl ?_
  rw [Try.ntmps79]
  refine tri_seq ?_
  refine tri_region ?_
  refine s_box rfl rfl rfl rfl rfl rfl rfl ?_
  refine s_box rfl rfl rfl rfl rfl rfl rfl ?_
  refine s_mv (.inr rfl) (v := .sc (.bool false)) rfl rfl rfl rfl ?_
  refine rt_nil ?_
  refine tri_seq ?_
  refine tri_seq ?_
  refine tri_region ?_
  refine s_fieldAddr rfl rfl fd70_0 rfl rfl rfl rfl ?_
  refine s_load rfl rfl rfl rfl ty9 rfl (.inr rfl) (by conv => lhs; whnf) rfl rfl rfl ?_
  refine s_fieldAddr rfl rfl fd70_0 rfl rfl rfl rfl ?_
  refine s_load rfl rfl rfl rfl ty9 rfl (.inr rfl) (by conv => lhs; whnf) rfl rfl rfl ?_
  refine s_of (st_neS rfl rfl rfl) rfl rfl rfl rfl ?_
  refine rt_nil ?_
  refine tri_cond rfl (fun c1 => ?_) (fun c1 => ?_)
  · replace h := cond_t h c1
    refine tri_seq ?_
    refine tri_region ?_
    refine s_mv (.inr rfl) (v := .sc (.bool false)) rfl rfl rfl rfl ?_
    refine rt_nil ?_
    refine tri_ret ?_
    have e0 := (some1 h); subst e0
    exact endY [] [] (rvC (resTmp rfl) rvN) trivial trivial rfl rfl rfl rfl (.free rfl)
  · replace h := cond_f h c1
    refine tri_skip ?_
    refine tri_seq ?_
    refine tri_seq ?_
    refine tri_region ?_
    refine s_fieldAddr rfl rfl fd70_1 rfl rfl rfl rfl ?_
    refine s_load rfl rfl rfl rfl ty3 rfl (.inr rfl) (by conv => lhs; whnf) rfl rfl rfl ?_
    refine s_fieldAddr rfl rfl fd70_1 rfl rfl rfl rfl ?_
    refine s_load rfl rfl rfl rfl ty3 rfl (.inr rfl) (by conv => lhs; whnf) rfl rfl rfl ?_
    refine s_of (st_neI rfl rfl rfl) rfl rfl rfl rfl ?_
    refine rt_nil ?_
    refine tri_cond rfl (fun c2 => ?_) (fun c2 => ?_)
    · replace h := cond_t h c2
      refine tri_seq ?_
      refine tri_region ?_
      refine s_mv (.inr rfl) (v := .sc (.bool false)) rfl rfl rfl rfl ?_
      refine rt_nil ?_
      refine tri_ret ?_
      have e0 := (some1 h); subst e0
      exact endY [] [] (rvC (resTmp rfl) rvN) trivial trivial rfl rfl rfl rfl (.free rfl)
    · replace h := cond_f h c2
      refine tri_skip ?_
      refine tri_seq ?_
      refine tri_region ?_
      refine s_mv (.inr rfl) (v := .sc (.bool true)) rfl rfl rfl rfl ?_
      refine rt_nil ?_
      refine tri_ret ?_
      have e0 := (some1 h); subst e0
      exact endY [] [] (rvC (resTmp rfl) rvN) trivial trivial rfl rfl rfl rfl (.free rfl)

/- laws.eqRecordS -/
def inv_w_eqRecordS_0 (p0 : List Rec) (p1 : List Rec) (v0_0 : Nat) : St := mkT 27 [(0, .lst 6 (List.map recV p0)), (1, .lst 6 (List.map recV p1)), (5, .sc (.int .i64 (v0_0 : Int)))] []
set_option maxRecDepth 4000 in
set_option maxHeartbeats 800000 in
theorem ww_eqRecordS (p0 : List Rec) (p1 : List Rec) (r0 : Bool) (h : w_eqRecordS p0 p1 = some r0) : Runs Try.prog 21 [.lst 6 (List.map recV p0), .lst 6 (List.map recV p1)] [] (.sc (.bool r0)) [] := by
  unfold w_eqRecordS at h
  refine runsR [.tmp 4] Try.func21 rfl rfl rfl rfl ?_
  rw [Try.ntmps21]
  refine tri_seq ?_
  refine tri_region ?_
  refine s_mv (.inr rfl) (v := .sc (.bool false)) rfl rfl rfl rfl ?_
  refine rt_nil ?_
  refine tri_seq ?_
  refine tri_seq ?_
  refine tri_region ?_
  refine s_mv (.inl rfl) (by conv => lhs; whnf) rfl rfl rfl ?_
  refine s_lenL rfl sl27 rfl rfl rfl rfl ?_
  refine s_mv (.inl rfl) (by conv => lhs; whnf) rfl rfl rfl ?_
  refine s_lenL rfl sl27 rfl rfl rfl rfl ?_
  refine s_of (st_neI rfl rfl rfl) rfl rfl rfl rfl ?_
  refine rt_nil ?_
  refine tri_cond rfl (fun c1 => ?_) (fun c1 => ?_)
  · replace h := cond_t h c1
    refine tri_seq ?_
    refine tri_region ?_
    refine s_mv (.inr rfl) (v := .sc (.bool false)) rfl rfl rfl rfl ?_
    refine rt_nil ?_
    refine tri_ret ?_
    have e0 := (some1 h); subst e0
    exact endY [] [] (rvC (resTmp rfl) rvN) trivial trivial rfl rfl rfl rfl (.free rfl)
  · replace h := cond_f h c1
    refine tri_skip ?_
    refine tri_seq ?_
    refine tri_seq ?_
    refine tri_region ?_
    refine s_mv (.inr rfl) (v := .sc (.int .i64 0)) rfl rfl rfl rfl ?_
    refine rt_nil ?_
    refine tri_block ?_
    refine tri_lstM 0 rfl (fun hl0 => ?_)
    refine tri_loop (ι := { p : (List Rec) × Nat // p0.drop p.2 = p.1 ∧ w_eqRecordS_l0 p1 p.1 p.2 = some r0 }) (fun p => inv_w_eqRecordS_0 p0 p1 p.1.2) (fun p => p.1.1.length) ⟨(p0, 0), rfl, h⟩ ?_ ?_
    · skip
      refine entX [] [] trivial trivial rfl rfl ?_
      exact ⟨(.free rfl), (.free rfl), (.free rfl), trivial⟩
    · rintro ⟨⟨lrs0, v0_0⟩, hd0, h⟩
      replace hd0 : p0.drop v0_0 = lrs0 := hd0
      replace h : w_eqRecordS_l0 p1 lrs0 v0_0 = some r0 := h
      show Tri _ _ _ (inv_w_eqRecordS_0 p0 p1 v0_0)
      refine tri_seq ?_
      refine tri_seq ?_
      refine tri_region ?_
      refine s_mv (.inl rfl) (by conv => lhs; whnf) rfl rfl rfl ?_
      refine s_mv (.inl rfl) (by conv => lhs; whnf) rfl rfl rfl ?_
      refine s_lenL rfl sl27 rfl rfl rfl rfl ?_
      refine s_of (st_lss rfl rfl rfl) rfl rfl rfl rfl ?_
      refine rt_nil ?_
      refine tri_cond rfl (fun c2 => ?_) (fun c2 => ?_)
      · refine drop_elim hd0 c2 fun e0 rs0 he hx0 hn0 => ?_
        subst he
        rw [w_eqRecordS_l0] at h
        refine tri_skip ?_
        refine tri_seq ?_
        refine tri_block ?_
        refine tri_seq ?_
        refine tri_draw mixed ?_
        refine s_mv (.inl rfl) (by conv => lhs; whnf) rfl rfl rfl ?_
        refine s_mv (.inl rfl) (by conv => lhs; whnf) rfl rfl rfl ?_
        refine s_indexF (i := v0_0) rfl rfl rfl sl27 (get_ltM hx0) rfl rfl rfl ?_
        refine s_loadFR rfl rfl (rowG hx0) ty36 rfl rfl rfl ?_
        refine s_mv (.inl rfl) (by conv => lhs; whnf) rfl rfl rfl ?_
        refine s_mv (.inl rfl) (by conv => lhs; whnf) rfl rfl rfl ?_
        refine bnd1_elim h fun x3 q4 h => ?_
        have q4a := (idx_some q4).1; have q4b := (idx_some q4).2
        refine s_indexFZ rfl rfl rfl sl27 q4a (get_ltM q4b) rfl rfl rfl ?_
        refine s_loadFR rfl rfl (rowG q4b) ty36 rfl rfl rfl ?_
        refine bnd1_elim h fun x5 q6 h => ?_
        refine s_callN (kb := []) (ns := []) (v := .sc (.bool x5)) rfl rfl cl28 (ww_eqRecord e0 x3 x5 q6) rfl (.cons (relAgg rfl) (.cons (relAgg rfl) .nil)) trivial memNil .nil memNil rfl trivial memNil rfl rfl rfl rfl rfl rfl ?_
        refine s_of (st_not rfl rfl) rfl rfl rfl rfl ?_
        refine rt_nil ⟨by kernel_rfl, ?_⟩
        refine tri_cond rfl (fun c7 => ?_) (fun c7 => ?_)
        · replace h := cond_t h c7
          refine tri_seq ?_
          refine tri_region ?_
          refine s_mv (.inr rfl) (v := .sc (.bool false)) rfl rfl rfl rfl ?_
          refine rt_nil ?_
          refine tri_ret ?_
          have e0 := (some1 h); subst e0
          exact endY [] [] (rvC (resTmp rfl) rvN) trivial trivial rfl rfl rfl rfl (.free rfl)
        · replace h := cond_f h c7
          refine tri_skip ?_
          refine tri_region ?_
          refine s_mv (.inl rfl) (by conv => lhs; whnf) rfl rfl rfl ?_
          refine s_inc (a := v0_0) (b := 1) rfl rfl rfl rfl (by have := get_lt hx0; have := hl0; omega) rfl rfl rfl ?_
          refine s_mv (.inr rfl) (by conv => lhs; whnf) rfl rfl rfl ?_
          refine rt_nil ?_
          refine Exists.intro ⟨(rs0, (v0_0 + 1)), hn0, h⟩ (And.intro (Nat.lt_succ_self _) ?_)
          refine entX [] [] trivial trivial rfl rfl ?_
          exact ⟨(.free rfl), (.free rfl), (.free rfl), trivial⟩
      · have he := drop_f hd0 c2; subst he
        rw [w_eqRecordS_l0] at h
        refine tri_exit ?_
        refine tri_seq ?_
        refine tri_region ?_
        refine s_mv (.inr rfl) (v := .sc (.bool true)) rfl rfl rfl rfl ?_
        refine rt_nil ?_
        refine tri_ret ?_
        have e0 := (some1 h); subst e0
        exact endY [] [] (rvC (resTmp rfl) rvN) trivial trivial rfl rfl rfl rfl (.free rfl)

/- laws.eqMsg -/

set_option maxRecDepth 4000 in
set_option maxHeartbeats 800000 in
theorem ww_eqMsg (p0 : MMsg) (p1 : MMsg) (r0 : Bool) (h : w_eqMsg p0 p1 = some r0) : Runs Try.prog 62 [.agg (mMsgV p0), .agg (mMsgV p1)] [] (.sc (.bool r0)) [] := by
  unfold w_eqMsg at h
  refine runsR [.tmp 4] Try.func62 rfl rfl rfl rfl ?_
  rw [Try.ntmps62]
  refine tri_seq ?_
  refine tri_region ?_
  refine s_box rfl rfl rfl rfl rfl rfl rfl ?_
  refine s_box rfl rfl rfl rfl rfl rfl rfl ?_
  refine s_mv (.inr rfl) (v := .sc (.bool false)) rfl rfl rfl rfl ?_
  refine rt_nil ?_
  refine tri_seq ?_
  refine tri_seq ?_
  refine tri_region ?_
  refine s_fieldAddr rfl rfl fd78_0 rfl rfl rfl rfl ?_
  refine s_load rfl rfl rfl rfl ty3 rfl (.inr rfl) (by conv => lhs; whnf) rfl rfl rfl ?_
  refine s_fieldAddr rfl rfl fd78_0 rfl rfl rfl rfl ?_
  refine s_load rfl rfl rfl rfl ty3 rfl (.inr rfl) (by conv => lhs; whnf) rfl rfl rfl ?_
  refine s_of (st_neI rfl rfl rfl) rfl rfl rfl rfl ?_
  refine rt_nil ?_
  refine tri_cond rfl (fun c1 => ?_) (fun c1 => ?_)
  · replace h := cond_t h c1
    refine tri_seq ?_
    refine tri_region ?_
    refine s_mv (.inr rfl) (v := .sc (.bool false)) rfl rfl rfl rfl ?_
    refine rt_nil ?_
    refine tri_ret ?_
    have e0 := (some1 h); subst e0
    exact endY [] [] (rvC (resTmp rfl) rvN) trivial trivial rfl rfl rfl rfl (.free rfl)
  · replace h := cond_f h c1
    refine tri_skip ?_
    refine tri_seq ?_
    refine tri_seq ?_
    refine tri_region ?_
    refine s_fieldAddr rfl rfl fd78_1 rfl rfl rfl rfl ?_
    refine s_load rfl rfl rfl rfl ty4 rfl (.inr rfl) (by conv => lhs; whnf) rfl rfl rfl ?_
    refine s_fieldAddr rfl rfl fd78_1 rfl rfl rfl rfl ?_
    refine s_load rfl rfl rfl rfl ty4 rfl (.inr rfl) (by conv => lhs; whnf) rfl rfl rfl ?_
    refine s_of (st_neB isb4 rfl rfl rfl) rfl rfl rfl rfl ?_
    refine rt_nil ?_
    refine tri_cond rfl (fun c2 => ?_) (fun c2 => ?_)
    · replace h := cond_t h c2
      refine tri_seq ?_
      refine tri_region ?_
      refine s_mv (.inr rfl) (v := .sc (.bool false)) rfl rfl rfl rfl ?_
      refine rt_nil ?_
      refine tri_ret ?_
      have e0 := (some1 h); subst e0
      exact endY [] [] (rvC (resTmp rfl) rvN) trivial trivial rfl rfl rfl rfl (.free rfl)
    · replace h := cond_f h c2
      refine tri_skip ?_
      refine tri_seq ?_
      refine tri_seq ?_
      refine tri_region ?_
      refine s_fieldAddr rfl rfl fd78_2 rfl rfl rfl rfl ?_
      refine s_load rfl rfl rfl rfl ty4 rfl (.inr rfl) (by conv => lhs; whnf) rfl rfl rfl ?_
      refine s_fieldAddr rfl rfl fd78_2 rfl rfl rfl rfl ?_
      refine s_load rfl rfl rfl rfl ty4 rfl (.inr rfl) (by conv => lhs; whnf) rfl rfl rfl ?_
      refine s_of (st_neB isb4 rfl rfl rfl) rfl rfl rfl rfl ?_
      refine rt_nil ?_
      refine tri_cond rfl (fun c3 => ?_) (fun c3 => ?_)
      · replace h := cond_t h c3
        refine tri_seq ?_
        refine tri_region ?_
        refine s_mv (.inr rfl) (v := .sc (.bool false)) rfl rfl rfl rfl ?_
        refine rt_nil ?_
        refine tri_ret ?_
        have e0 := (some1 h); subst e0
        exact endY [] [] (rvC (resTmp rfl) rvN) trivial trivial rfl rfl rfl rfl (.free rfl)
      · replace h := cond_f h c3
        refine tri_skip ?_
        refine tri_seq ?_
        refine tri_seq ?_
        refine tri_region ?_
        refine s_fieldAddr rfl rfl fd78_3 rfl rfl rfl rfl ?_
        refine s_load rfl rfl rfl rfl ty4 rfl (.inr rfl) (by conv => lhs; whnf) rfl rfl rfl ?_
        refine s_fieldAddr rfl rfl fd78_3 rfl rfl rfl rfl ?_
        refine s_load rfl rfl rfl rfl ty4 rfl (.inr rfl) (by conv => lhs; whnf) rfl rfl rfl ?_
        refine s_of (st_neB isb4 rfl rfl rfl) rfl rfl rfl rfl ?_
        refine rt_nil ?_
        refine tri_cond rfl (fun c4 => ?_) (fun c4 => ?_)
        · replace h := cond_t h c4
          refine tri_seq ?_
          refine tri_region ?_
          refine s_mv (.inr rfl) (v := .sc (.bool false)) rfl rfl rfl rfl ?_
          refine rt_nil ?_
          refine tri_ret ?_
          have e0 := (some1 h); subst e0
          exact endY [] [] (rvC (resTmp rfl) rvN) trivial trivial rfl rfl rfl rfl (.free rfl)
        · replace h := cond_f h c4
          refine tri_skip ?_
          refine tri_seq ?_
          refine tri_seq ?_
          refine tri_region ?_
          refine s_fieldAddr rfl rfl fd78_4 rfl rfl rfl rfl ?_
          refine s_load rfl rfl rfl rfl ty4 rfl (.inr rfl) (by conv => lhs; whnf) rfl rfl rfl ?_
          refine s_fieldAddr rfl rfl fd78_4 rfl rfl rfl rfl ?_
          refine s_load rfl rfl rfl rfl ty4 rfl (.inr rfl) (by conv => lhs; whnf) rfl rfl rfl ?_
          refine s_of (st_neB isb4 rfl rfl rfl) rfl rfl rfl rfl ?_
          refine rt_nil ?_
          refine tri_cond rfl (fun c5 => ?_) (fun c5 => ?_)
          · replace h := cond_t h c5
            refine tri_seq ?_
            refine tri_region ?_
            refine s_mv (.inr rfl) (v := .sc (.bool false)) rfl rfl rfl rfl ?_
            refine rt_nil ?_
            refine tri_ret ?_
            have e0 := (some1 h); subst e0
            exact endY [] [] (rvC (resTmp rfl) rvN) trivial trivial rfl rfl rfl rfl (.free rfl)
          · replace h := cond_f h c5
            refine tri_skip ?_
            refine tri_seq ?_
            refine tri_seq ?_
            refine tri_region ?_
            refine s_fieldAddr rfl rfl fd78_5 rfl rfl rfl rfl ?_
            refine s_load rfl rfl rfl rfl ty4 rfl (.inr rfl) (by conv => lhs; whnf) rfl rfl rfl ?_
            refine s_fieldAddr rfl rfl fd78_5 rfl rfl rfl rfl ?_
            refine s_load rfl rfl rfl rfl ty4 rfl (.inr rfl) (by conv => lhs; whnf) rfl rfl rfl ?_
            refine s_of (st_neB isb4 rfl rfl rfl) rfl rfl rfl rfl ?_
            refine rt_nil ?_
            refine tri_cond rfl (fun c6 => ?_) (fun c6 => ?_)
            · replace h := cond_t h c6
              refine tri_seq ?_
              refine tri_region ?_
              refine s_mv (.inr rfl) (v := .sc (.bool false)) rfl rfl rfl rfl ?_
              refine rt_nil ?_
              refine tri_ret ?_
              have e0 := (some1 h); subst e0
              exact endY [] [] (rvC (resTmp rfl) rvN) trivial trivial rfl rfl rfl rfl (.free rfl)
            · replace h := cond_f h c6
              refine tri_skip ?_
              refine tri_seq ?_
              refine tri_seq ?_
              refine tri_region ?_
              refine s_fieldAddr rfl rfl fd78_6 rfl rfl rfl rfl ?_
              refine s_load rfl rfl rfl rfl ty3 rfl (.inr rfl) (by conv => lhs; whnf) rfl rfl rfl ?_
              refine s_fieldAddr rfl rfl fd78_6 rfl rfl rfl rfl ?_
              refine s_load rfl rfl rfl rfl ty3 rfl (.inr rfl) (by conv => lhs; whnf) rfl rfl rfl ?_
              refine s_of (st_neI rfl rfl rfl) rfl rfl rfl rfl ?_
              refine rt_nil ?_
              refine tri_cond rfl (fun c7 => ?_) (fun c7 => ?_)
              · replace h := cond_t h c7
                refine tri_seq ?_
                refine tri_region ?_
                refine s_mv (.inr rfl) (v := .sc (.bool false)) rfl rfl rfl rfl ?_
                refine rt_nil ?_
                refine tri_ret ?_
                have e0 := (some1 h); subst e0
                exact endY [] [] (rvC (resTmp rfl) rvN) trivial trivial rfl rfl rfl rfl (.free rfl)
              · replace h := cond_f h c7
                refine tri_skip ?_
                refine tri_seq ?_
                refine tri_seq ?_
                refine tri_region ?_
                refine s_fieldAddr rfl rfl fd78_7 rfl rfl rfl rfl ?_
                refine s_load (v := .agg (questV p0.q)) rfl rfl rfl rfl ty70 rfl (.inl rfl) rfl rfl rfl rfl ?_
                refine s_fieldAddr rfl rfl fd78_7 rfl rfl rfl rfl ?_
                refine s_load (v := .agg (questV p1.q)) rfl rfl rfl rfl ty70 rfl (.inl rfl) rfl rfl rfl rfl ?_
                refine bnd1_elim h fun x8 q9 h => ?_
                refine s_callN (kb := []) (ns := []) (v := .sc (.bool x8)) rfl rfl cl79 (ww_eqQuest p0.q p1.q x8 q9) rfl (.cons (relAgg rfl) (.cons (relAgg rfl) .nil)) trivial memNil .nil memNil rfl trivial memNil rfl rfl rfl rfl rfl rfl ?_
                refine s_of (st_not rfl rfl) rfl rfl rfl rfl ?_
                refine rt_nil ?_
                refine tri_cond rfl (fun c10 => ?_) (fun c10 => ?_)
                · replace h := cond_t h c10
                  refine tri_seq ?_
                  refine tri_region ?_
                  refine s_mv (.inr rfl) (v := .sc (.bool false)) rfl rfl rfl rfl ?_
                  refine rt_nil ?_
                  refine tri_ret ?_
                  have e0 := (some1 h); subst e0
                  exact endY [] [] (rvC (resTmp rfl) rvN) trivial trivial rfl rfl rfl rfl (.free rfl)
                · replace h := cond_f h c10
                  refine tri_skip ?_
                  refine tri_seq ?_
                  refine tri_seq ?_
                  refine tri_region ?_
                  refine s_fieldAddr rfl rfl fd78_8 rfl rfl rfl rfl ?_
                  refine s_load rfl rfl rfl rfl ty27 rfl (.inr rfl) (by conv => lhs; whnf) rfl rfl rfl ?_
                  refine s_fieldAddr rfl rfl fd78_8 rfl rfl rfl rfl ?_
                  refine s_load rfl rfl rfl rfl ty27 rfl (.inr rfl) (by conv => lhs; whnf) rfl rfl rfl ?_
                  refine bnd1_elim h fun x11 q12 h => ?_
                  refine s_callN (kb := []) (ns := []) (v := .sc (.bool x11)) rfl rfl cl21 (ww_eqRecordS p0.an p1.an x11 q12) rfl (.cons (.free rfl) (.cons (.free rfl) .nil)) trivial memNil .nil memNil rfl trivial memNil rfl rfl rfl rfl rfl rfl ?_
                  refine s_of (st_not rfl rfl) rfl rfl rfl rfl ?_
                  refine rt_nil ?_
                  refine tri_cond rfl (fun c13 => ?_) (fun c13 => ?_)
                  · replace h := cond_t h c13
                    refine tri_seq ?_
                    refine tri_region ?_
                    refine s_mv (.inr rfl) (v := .sc (.bool false)) rfl rfl rfl rfl ?_
                    refine rt_nil ?_
                    refine tri_ret ?_
                    have e0 := (some1 h); subst e0
                    exact endY [] [] (rvC (resTmp rfl) rvN) trivial trivial rfl rfl rfl rfl (.free rfl)
                  · replace h := cond_f h c13
                    refine tri_skip ?_
                    refine tri_seq ?_
                    refine tri_seq ?_
                    refine tri_region ?_
                    refine s_fieldAddr rfl rfl fd78_9 rfl rfl rfl rfl ?_
                    refine s_load rfl rfl rfl rfl ty27 rfl (.inr rfl) (by conv => lhs; whnf) rfl rfl rfl ?_
                    refine s_fieldAddr rfl rfl fd78_9 rfl rfl rfl rfl ?_
                    refine s_load rfl rfl rfl rfl ty27 rfl (.inr rfl) (by conv => lhs; whnf) rfl rfl rfl ?_
                    refine bnd1_elim h fun x14 q15 h => ?_
                    refine s_callN (kb := []) (ns := []) (v := .sc (.bool x14)) rfl rfl cl21 (ww_eqRecordS p0.au p1.au x14 q15) rfl (.cons (.free rfl) (.cons (.free rfl) .nil)) trivial memNil .nil memNil rfl trivial memNil rfl rfl rfl rfl rfl rfl ?_
                    refine s_of (st_not rfl rfl) rfl rfl rfl rfl ?_
                    refine rt_nil ?_
                    refine tri_cond rfl (fun c16 => ?_) (fun c16 => ?_)
                    · replace h := cond_t h c16
                      refine tri_seq ?_
                      refine tri_region ?_
                      refine s_mv (.inr rfl) (v := .sc (.bool false)) rfl rfl rfl rfl ?_
                      refine rt_nil ?_
                      refine tri_ret ?_
                      have e0 := (some1 h); subst e0
                      exact endY [] [] (rvC (resTmp rfl) rvN) trivial trivial rfl rfl rfl rfl (.free rfl)
                    · replace h := cond_f h c16
                      refine tri_skip ?_
                      refine tri_seq ?_
                      refine tri_seq ?_
                      refine tri_region ?_
                      refine s_fieldAddr rfl rfl fd78_10 rfl rfl rfl rfl ?_
                      refine s_load rfl rfl rfl rfl ty27 rfl (.inr rfl) (by conv => lhs; whnf) rfl rfl rfl ?_
                      refine s_fieldAddr rfl rfl fd78_10 rfl rfl rfl rfl ?_
                      refine s_load rfl rfl rfl rfl ty27 rfl (.inr rfl) (by conv => lhs; whnf) rfl rfl rfl ?_
                      refine bnd1_elim h fun x17 q18 h => ?_
                      refine s_callN (kb := []) (ns := []) (v := .sc (.bool x17)) rfl rfl cl21 (ww_eqRecordS p0.ad p1.ad x17 q18) rfl (.cons (.free rfl) (.cons (.free rfl) .nil)) trivial memNil .nil memNil rfl trivial memNil rfl rfl rfl rfl rfl rfl ?_
                      refine s_of (st_not rfl rfl) rfl rfl rfl rfl ?_
                      refine rt_nil ?_
                      refine tri_cond rfl (fun c19 => ?_) (fun c19 => ?_)
                      · replace h := cond_t h c19
                        refine tri_seq ?_
                        refine tri_region ?_
                        refine s_mv (.inr rfl) (v := .sc (.bool false)) rfl rfl rfl rfl ?_
                        refine rt_nil ?_
                        refine tri_ret ?_
                        have e0 := (some1 h); subst e0
                        exact endY [] [] (rvC (resTmp rfl) rvN) trivial trivial rfl rfl rfl rfl (.free rfl)
                      · replace h := cond_f h c19
                        refine tri_skip ?_
                        refine tri_seq ?_
                        refine tri_region ?_
                        refine s_mv (.inr rfl) (v := .sc (.bool true)) rfl rfl rfl rfl ?_
                        refine rt_nil ?_
                        refine tri_ret ?_
                        have e0 := (some1 h); subst e0
                        exact endY [] [] (rvC (resTmp rfl) rvN) trivial trivial rfl rfl rfl rfl (.free rfl)

/- laws.FnExactAliasIn -/
def inv_w_FnExactAliasIn_0 (p0 : MMsg) (x9 : MMsg) (j0_0 : Bool) : St := mkT 41 [(1, .ptr (1, 0) 0 0), (6, .ptr (6, 0) 0 0), (35, .sc (.bool j0_0))] [((1, 0), some ⟨73, 12, [[.sc (.int .i64 p0.id), .sc (.bool p0.reply), .sc (.bool p0.auth), .sc (.bool p0.cut), .sc (.bool p0.want), .sc (.bool p0.can), .sc (.int .i64 p0.code), .sc (.string p0.q.name), .sc (.int .i64 p0.q.ty), .lst 6 (List.map recV p0.an), .lst 6 (List.map recV p0.au), .lst 6 (List.map recV p0.ad)]], false, true⟩), ((6, 0), some ⟨78, 12, [[.sc (.int .i64 x9.id), .sc (.bool x9.reply), .sc (.bool x9.auth), .sc (.bool x9.cut), .sc (.bool x9.want), .sc (.bool x9.can), .sc (.int .i64 x9.code), .sc (.string x9.q.name), .sc (.int .i64 x9.q.ty), .ref (21, 9) 0 x9.an.length, .ref (21, 10) 0 x9.au.length, .ref (21, 11) 0 x9.ad.length]], false, true⟩), ((21, 9), some ⟨36, 6, List.map recV x9.an, false, true⟩), ((21, 10), some ⟨36, 6, List.map recV x9.au, false, true⟩), ((21, 11), some ⟨36, 6, List.map recV x9.ad, false, true⟩)]
set_option maxRecDepth 4000 in
set_option maxHeartbeats 800000 in
theorem ww_FnExactAliasIn (p0 : MMsg) (r0 : Bool) (h : w_FnExactAliasIn p0 = some r0) : Runs Try.prog 14 [.agg (mMsgV p0)] [] (.sc (.bool r0)) [] := by
  unfold w_FnExactAliasIn at h
  refine runsR [.tmp 2] Try.func14 rfl rfl rfl rfl ?_
  rw [Try.ntmps14]
  refine tri_seq ?_
  refine tri_region ?_
  refine s_box rfl rfl rfl rfl rfl rfl rfl ?_
  refine s_mv (.inr rfl) (v := .sc (.bool false)) rfl rfl rfl rfl ?_
  refine rt_nil ?_
  refine tri_seq ?_
  refine tri_region ?_
  refine s_mv (.inr rfl) (v := .sc (.int .i64 1048576)) rfl rfl rfl rfl ?_
  refine rt_nil ?_
  refine tri_seq ?_
  refine tri_region ?_
  refine s_loadR rfl rfl rfl rfl ty73 rfl rfl rfl ?_
  refine s_mv (.inl rfl) (by conv => lhs; whnf) rfl rfl rfl ?_
  refine bnd1_elim h fun x1 q2 h => ?_
  refine s_callN (kb := []) (ns := []) (v := .sc (.int .i64 x1)) rfl rfl cl58 (ww_szMsg p0 1048576 x1 q2) rfl (.cons (relAgg rfl) (.cons (.free rfl) .nil)) trivial memNil .nil memNil rfl trivial memNil rfl rfl rfl rfl rfl rfl ?_
  refine s_mv (.inr rfl) (by conv => lhs; whnf) rfl rfl rfl ?_
  refine rt_nil ?_
  refine tri_seq ?_
  refine tri_seq ?_
  refine tri_region ?_
  refine s_mv (.inl rfl) (by conv => lhs; whnf) rfl rfl rfl ?_
  refine s_of (st_lss rfl rfl rfl) rfl rfl rfl rfl ?_
  refine rt_nil ?_
  refine tri_cond rfl (fun c3 => ?_) (fun c3 => ?_)
  · replace h := cond_t h c3
    refine tri_seq ?_
    refine tri_region ?_
    refine s_mv (.inr rfl) (v := .sc (.bool true)) rfl rfl rfl rfl ?_
    refine rt_nil ?_
    refine tri_ret ?_
    have e0 := (some1 h); subst e0
    exact endY [] [] (rvC (resTmp rfl) rvN) trivial trivial rfl rfl rfl rfl (.free rfl)
  · replace h := cond_f h c3
    refine tri_skip ?_
    refine tri_seq ?_
    refine tri_region ?_
    refine s_loadR rfl rfl rfl rfl ty73 rfl rfl rfl ?_
    refine bnd1_elim h fun x4 q5 h => ?_
    refine s_callN (kb := []) (ns := []) (v := .agg [.sc (.int .i64 x4.id), .sc (.bool x4.reply), .sc (.bool x4.auth), .sc (.bool x4.cut), .sc (.bool x4.want), .sc (.bool x4.can), .sc (.int .i64 x4.code), .sc (.string x4.q.name), .sc (.int .i64 x4.q.ty), .ref (16, 9) 0 x4.an.length, .ref (16, 10) 0 x4.au.length, .ref (16, 11) 0 x4.ad.length]) rfl rfl cl60 (ww_toMsg p0 x4 q5) rfl (.cons (relAgg rfl) .nil) trivial memNil .nil memNil rfl ⟨(allSc_map recV_sc), ⟨(allSc_map recV_sc), ⟨(allSc_map recV_sc), trivial⟩⟩⟩ memNil rfl (by simp only [V.mat, V.mat1, V.mat0, matL, matT, List.length_map]) rfl rfl rfl rfl ?_
    refine bnd2_elim h fun x6 x7 q8 h => ?_
    refine s_callN (kb := [(16, 9), (16, 10), (16, 11)]) (ns := []) (v := .tup [.agg (recV x6), .sc (.bool x7)]) rfl rfl cl59 (ws_AliasIn x4 x6 x7 q8) rfl (.cons (relAggL (.cons (.free rfl) (.cons (.free rfl) (.cons (.free rfl) (.cons (.free rfl) (.cons (.free rfl) (.cons (.free rfl) (.cons (.free rfl) (.cons (.free rfl) (.cons (.free rfl) (.cons (lendL rfl (.head _) rfl recV_free recV_len) (.cons (lendL rfl (.tail _ (.head _)) rfl recV_free recV_len) (.cons (lendL rfl (.tail _ (.tail _ (.head _))) rfl recV_free recV_len) .nil))))))))))))) .nil) trivial memNil .nil (fun _ _ => List.not_mem_nil) rfl trivial memNil rfl rfl rfl rfl rfl rfl ?_
    refine s_mv (.inl rfl) (by conv => lhs; whnf) rfl rfl rfl ?_
    refine s_extract rfl rfl rfl rfl rfl rfl ?_
    refine s_extract rfl rfl rfl rfl rfl rfl ?_
    refine s_alloc rfl rfl rfl zc36 rfl rfl rfl rfl rfl ?_
    refine s_storeB rfl rfl rfl ty36 rfl rfl rfl rfl rfl ?_
    refine s_mv (.inr rfl) (by conv => lhs; whnf) rfl rfl rfl ?_
    refine rt_nil ?_
    refine tri_seq ?_
    refine tri_region ?_
    refine s_loadR rfl rfl rfl rfl ty73 rfl rfl rfl ?_
    refine bnd1_elim h fun x9 q10 h => ?_
    refine s_callN (kb := []) (ns := []) (v := .agg [.sc (.int .i64 x9.id), .sc (.bool x9.reply), .sc (.bool x9.auth), .sc (.bool x9.cut), .sc (.bool x9.want), .sc (.bool x9.can), .sc (.int .i64 x9.code), .sc (.string x9.q.name), .sc (.int .i64 x9.q.ty), .ref (21, 9) 0 x9.an.length, .ref (21, 10) 0 x9.au.length, .ref (21, 11) 0 x9.ad.length]) rfl rfl cl60 (ww_toMsg p0 x9 q10) rfl (.cons (relAgg rfl) .nil) trivial memNil .nil memNil rfl ⟨(allSc_map recV_sc), ⟨(allSc_map recV_sc), ⟨(allSc_map recV_sc), trivial⟩⟩⟩ memNil rfl (by simp only [V.mat, V.mat1, V.mat0, matL, matT, List.length_map]) rfl rfl rfl rfl ?_
    refine s_alloc rfl rfl rfl zc78 rfl rfl rfl rfl rfl ?_
    refine s_storeB rfl rfl rfl ty78 rfl rfl rfl rfl rfl ?_
    refine rt_nil ?_
    refine tri_seq ?_
    refine tri_region ?_
    refine s_loadR rfl rfl rfl rfl ty78 rfl rfl rfl ?_
    refine bnd2_elim h fun x11 x12 q13 h => ?_
    refine s_callN (kb := [(21, 9), (21, 10), (21, 11)]) (ns := []) (v := .tup [.agg (recV x11), .sc (.bool x12)]) rfl rfl cl61 (wi_AliasIn x9 x11 x12 q13) rfl (.cons (relAggL (.cons (.free rfl) (.cons (.free rfl) (.cons (.free rfl) (.cons (.free rfl) (.cons (.free rfl) (.cons (.free rfl) (.cons (.free rfl) (.cons (.free rfl) (.cons (.free rfl) (.cons (lendL rfl (.head _) rfl recV_free recV_len) (.cons (lendL rfl (.tail _ (.head _)) rfl recV_free recV_len) (.cons (lendL rfl (.tail _ (.tail _ (.head _))) rfl recV_free recV_len) .nil))))))))))))) .nil) trivial memNil .nil (fun _ _ => List.not_mem_nil) rfl trivial memNil rfl rfl rfl rfl rfl rfl ?_
    refine s_mv (.inl rfl) (by conv => lhs; whnf) rfl rfl rfl ?_
    refine s_extract rfl rfl rfl rfl rfl rfl ?_
    refine s_extract rfl rfl rfl rfl rfl rfl ?_
    refine s_alloc rfl rfl rfl zc36 rfl rfl rfl rfl rfl ?_
    refine s_storeB rfl rfl rfl ty36 rfl rfl rfl rfl rfl ?_
    refine s_mv (.inr rfl) (by conv => lhs; whnf) rfl rfl rfl ?_
    refine rt_nil ?_
    refine tri_seq ?_
    refine tri_cutI (ι := { p : Bool // w_FnExactAliasIn_j0 p0 x9 p = some r0 }) (fun p => inv_w_FnExactAliasIn_0 p0 x9 p.1) ?_ ?_
    · skip
      refine tri_region ?_
      refine s_loadR rfl rfl rfl rfl ty36 rfl rfl rfl ?_
      refine s_loadR rfl rfl rfl rfl ty36 rfl rfl rfl ?_
      refine bnd1_elim h fun x14 q15 h => ?_
      refine s_callN (kb := []) (ns := []) (v := .sc (.bool x14)) rfl rfl cl28 (ww_eqRecord x11 x6 x14 q15) rfl (.cons (relAgg rfl) (.cons (relAgg rfl) .nil)) trivial memNil .nil memNil rfl trivial memNil rfl rfl rfl rfl rfl rfl ?_
      refine s_of (st_not rfl rfl) rfl rfl rfl rfl ?_
      refine s_mv (.inl rfl) (by conv => lhs; whnf) rfl rfl rfl ?_
      refine s_split (t := 31) rfl (fun b16 => ?_) (fun b16 => ?_)
      · replace h := cond_t h b16
        refine s_skip rfl rfl rfl ?_
        refine s_skip rfl rfl rfl ?_
        refine s_skip rfl rfl rfl ?_
        refine s_pickT rfl rfl (v := .sc (.bool true)) rfl rfl rfl rfl ?_
        refine rt_nil ?_
        refine Exists.intro ⟨true, h⟩ ?_
        refine entX [((1, 0), ⟨73, 12, [[.sc (.int .i64 p0.id), .sc (.bool p0.reply), .sc (.bool p0.auth), .sc (.bool p0.cut), .sc (.bool p0.want), .sc (.bool p0.can), .sc (.int .i64 p0.code), .sc (.string p0.q.name), .sc (.int .i64 p0.q.ty), .lst 6 (List.map recV p0.an), .lst 6 (List.map recV p0.au), .lst 6 (List.map recV p0.ad)]], false, true⟩, some (1, 0)), ((6, 0), ⟨78, 12, [[.sc (.int .i64 x9.id), .sc (.bool x9.reply), .sc (.bool x9.auth), .sc (.bool x9.cut), .sc (.bool x9.want), .sc (.bool x9.can), .sc (.int .i64 x9.code), .sc (.string x9.q.name), .sc (.int .i64 x9.q.ty), .ref (21, 9) 0 x9.an.length, .ref (21, 10) 0 x9.au.length, .ref (21, 11) 0 x9.ad.length]], false, true⟩, some (6, 0)), ((21, 9), ⟨36, 6, List.map recV x9.an, false, true⟩, some (21, 9)), ((21, 10), ⟨36, 6, List.map recV x9.au, false, true⟩, some (21, 10)), ((21, 11), ⟨36, 6, List.map recV x9.ad, false, true⟩, some (21, 11))] [] ⟨⟨rfl, _, rfl, rfl, rfl, rfl, id, rowsCv_one (.cons (.free rfl) (.cons (.free rfl) (.cons (.free rfl) (.cons (.free rfl) (.cons (.free rfl) (.cons (.free rfl) (.cons (.free rfl) (.cons (.free rfl) (.cons (.free rfl) (.cons (.free rfl) (.cons (.free rfl) (.cons (.free rfl) .nil)))))))))))), rowsZ_one rfl⟩, ⟨rfl, _, rfl, rfl, rfl, rfl, id, rowsCv_one (.cons (.free rfl) (.cons (.free rfl) (.cons (.free rfl) (.cons (.free rfl) (.cons (.free rfl) (.cons (.free rfl) (.cons (.free rfl) (.cons (.free rfl) (.cons (.free rfl) (.cons (.ref rfl) (.cons (.ref rfl) (.cons (.ref rfl) .nil)))))))))))), rowsZ_one rfl⟩, ⟨rfl, _, rfl, rfl, rfl, rfl, id, rowsCv_eq rfl (allFree_map recV_free), rowsZ_map recV_len⟩, ⟨rfl, _, rfl, rfl, rfl, rfl, id, rowsCv_eq rfl (allFree_map recV_free), rowsZ_map recV_len⟩, ⟨rfl, _, rfl, rfl, rfl, rfl, id, rowsCv_eq rfl (allFree_map recV_free), rowsZ_map recV_len⟩, trivial⟩ trivial rfl rfl ?_
        exact ⟨(.ptr rfl), (.ptr rfl), (.free rfl), trivial⟩
      · replace h := cond_f h b16
        refine s_mv (.inl rfl) (by conv => lhs; whnf) rfl rfl rfl ?_
        refine s_mv (.inl rfl) (by conv => lhs; whnf) rfl rfl rfl ?_
        refine s_of (st_neB isb4 rfl rfl rfl) rfl rfl rfl rfl ?_
        refine s_pickF rfl rfl (by conv => lhs; whnf) rfl rfl rfl ?_
        refine rt_nil ?_
        refine Exists.intro ⟨!(x12 == x7), h⟩ ?_
        refine entX [((1, 0), ⟨73, 12, [[.sc (.int .i64 p0.id), .sc (.bool p0.reply), .sc (.bool p0.auth), .sc (.bool p0.cut), .sc (.bool p0.want), .sc (.bool p0.can), .sc (.int .i64 p0.code), .sc (.string p0.q.name), .sc (.int .i64 p0.q.ty), .lst 6 (List.map recV p0.an), .lst 6 (List.map recV p0.au), .lst 6 (List.map recV p0.ad)]], false, true⟩, some (1, 0)), ((6, 0), ⟨78, 12, [[.sc (.int .i64 x9.id), .sc (.bool x9.reply), .sc (.bool x9.auth), .sc (.bool x9.cut), .sc (.bool x9.want), .sc (.bool x9.can), .sc (.int .i64 x9.code), .sc (.string x9.q.name), .sc (.int .i64 x9.q.ty), .ref (21, 9) 0 x9.an.length, .ref (21, 10) 0 x9.au.length, .ref (21, 11) 0 x9.ad.length]], false, true⟩, some (6, 0)), ((21, 9), ⟨36, 6, List.map recV x9.an, false, true⟩, some (21, 9)), ((21, 10), ⟨36, 6, List.map recV x9.au, false, true⟩, some (21, 10)), ((21, 11), ⟨36, 6, List.map recV x9.ad, false, true⟩, some (21, 11))] [] ⟨⟨rfl, _, rfl, rfl, rfl, rfl, id, rowsCv_one (.cons (.free rfl) (.cons (.free rfl) (.cons (.free rfl) (.cons (.free rfl) (.cons (.free rfl) (.cons (.free rfl) (.cons (.free rfl) (.cons (.free rfl) (.cons (.free rfl) (.cons (.free rfl) (.cons (.free rfl) (.cons (.free rfl) .nil)))))))))))), rowsZ_one rfl⟩, ⟨rfl, _, rfl, rfl, rfl, rfl, id, rowsCv_one (.cons (.free rfl) (.cons (.free rfl) (.cons (.free rfl) (.cons (.free rfl) (.cons (.free rfl) (.cons (.free rfl) (.cons (.free rfl) (.cons (.free rfl) (.cons (.free rfl) (.cons (.ref rfl) (.cons (.ref rfl) (.cons (.ref rfl) .nil)))))))))))), rowsZ_one rfl⟩, ⟨rfl, _, rfl, rfl, rfl, rfl, id, rowsCv_eq rfl (allFree_map recV_free), rowsZ_map recV_len⟩, ⟨rfl, _, rfl, rfl, rfl, rfl, id, rowsCv_eq rfl (allFree_map recV_free), rowsZ_map recV_len⟩, ⟨rfl, _, rfl, rfl, rfl, rfl, id, rowsCv_eq rfl (allFree_map recV_free), rowsZ_map recV_len⟩, trivial⟩ trivial rfl rfl ?_
        exact ⟨(.ptr rfl), (.ptr rfl), (.free rfl), trivial⟩
    · rintro ⟨j0_0, h⟩
      replace h : w_FnExactAliasIn_j0 p0 x9 j0_0 = some r0 := h
      unfold w_FnExactAliasIn_j0 at h
      show Tri _ _ _ (inv_w_FnExactAliasIn_0 p0 x9 j0_0)
      refine tri_cond rfl (fun c14 => ?_) (fun c14 => ?_)
      · replace h := cond_t h c14
        refine tri_seq ?_
        refine tri_region ?_
        refine s_mv (.inr rfl) (v := .sc (.bool false)) rfl rfl rfl rfl ?_
        refine rt_nil ?_
        refine tri_ret ?_
        have e0 := (some1 h); subst e0
        exact endY [] [] (rvC (resTmp rfl) rvN) trivial trivial rfl rfl rfl rfl (.free rfl)
      · replace h := cond_f h c14
        refine tri_skip ?_
        refine tri_seq ?_
        refine tri_seq ?_
        refine tri_draw mixed ?_
        refine s_loadR rfl rfl rfl rfl ty78 rfl rfl rfl ?_
        refine s_loadR rfl rfl rfl rfl ty73 rfl rfl rfl ?_
        refine bnd1_elim h fun x15 q16 h => ?_
        refine s_callN (kb := []) (ns := []) (v := .agg [.sc (.int .i64 x15.id), .sc (.bool x15.reply), .sc (.bool x15.auth), .sc (.bool x15.cut), .sc (.bool x15.want), .sc (.bool x15.can), .sc (.int .i64 x15.code), .sc (.string x15.q.name), .sc (.int .i64 x15.q.ty), .ref (38, 9) 0 x15.an.length, .ref (38, 10) 0 x15.au.length, .ref (38, 11) 0 x15.ad.length]) rfl rfl cl60 (ww_toMsg p0 x15 q16) rfl (.cons (relAgg rfl) .nil) trivial memNil .nil memNil rfl ⟨(allSc_map recV_sc), ⟨(allSc_map recV_sc), ⟨(allSc_map recV_sc), trivial⟩⟩⟩ memNil rfl (by simp only [V.mat, V.mat1, V.mat0, matL, matT, List.length_map]) rfl rfl rfl rfl ?_
        refine bnd1_elim h fun x17 q18 h => ?_
        refine s_callN (kb := [(21, 9), (21, 10), (21, 11), (38, 9), (38, 10), (38, 11)]) (ns := []) (v := .sc (.bool x17)) rfl rfl cl62 (ww_eqMsg x9 x15 x17 q18) rfl (.cons (relAggL (.cons (.free rfl) (.cons (.free rfl) (.cons (.free rfl) (.cons (.free rfl) (.cons (.free rfl) (.cons (.free rfl) (.cons (.free rfl) (.cons (.free rfl) (.cons (.free rfl) (.cons (lendL rfl (.head _) rfl recV_free recV_len) (.cons (lendL rfl (.tail _ (.head _)) rfl recV_free recV_len) (.cons (lendL rfl (.tail _ (.tail _ (.head _))) rfl recV_free recV_len) .nil))))))))))))) (.cons (relAggL (.cons (.free rfl) (.cons (.free rfl) (.cons (.free rfl) (.cons (.free rfl) (.cons (.free rfl) (.cons (.free rfl) (.cons (.free rfl) (.cons (.free rfl) (.cons (.free rfl) (.cons (lendL rfl (.tail _ (.tail _ (.tail _ (.head _)))) rfl recV_free recV_len) (.cons (lendL rfl (.tail _ (.tail _ (.tail _ (.tail _ (.head _))))) rfl recV_free recV_len) (.cons (lendL rfl (.tail _ (.tail _ (.tail _ (.tail _ (.tail _ (.head _)))))) rfl recV_free recV_len) .nil))))))))))))) .nil)) trivial memNil .nil (fun _ _ => List.not_mem_nil) rfl trivial memNil rfl rfl rfl rfl rfl rfl ?_
        refine s_of (st_not rfl rfl) rfl rfl rfl rfl ?_
        refine rt_nil ⟨by kernel_rfl, ?_⟩
        refine tri_cond rfl (fun c19 => ?_) (fun c19 => ?_)
        · replace h := cond_t h c19
          refine tri_seq ?_
          refine tri_region ?_
          refine s_mv (.inr rfl) (v := .sc (.bool false)) rfl rfl rfl rfl ?_
          refine rt_nil ?_
          refine tri_ret ?_
          have e0 := (some1 h); subst e0
          exact endY [] [] (rvC (resTmp rfl) rvN) trivial trivial rfl rfl rfl rfl (.free rfl)
        · replace h := cond_f h c19
          refine tri_skip ?_
          refine tri_seq ?_
          refine tri_region ?_
          refine s_mv (.inr rfl) (v := .sc (.bool true)) rfl rfl rfl rfl ?_
          refine rt_nil ?_
          refine tri_ret ?_
          have e0 := (some1 h); subst e0
          exact endY [] [] (rvC (resTmp rfl) rvN) trivial trivial rfl rfl rfl rfl (.free rfl)

end Go.Abs.M
