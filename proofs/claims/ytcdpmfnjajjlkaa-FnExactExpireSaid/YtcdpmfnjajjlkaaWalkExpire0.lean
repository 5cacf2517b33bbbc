/- Walks of the functions that the law of Expire reaches: what each of them computes, where its pure function does not fail. -/
import Derived.Test.YtcdpmfnjajjlkaaFnsExpire
import Derived.Test.YtcdpmfnjajjlkaaChecked
set_option linter.unusedSimpArgs false
set_option linter.unusedVariables false
namespace Go.Abs.M
open Go Go.Abs Go.Proofs
theorem byt74 : isBytes Try.prog 74 = some 5 := by kernel_rfl
theorem cl12 : callable Try.prog 12 = true := by kernel_rfl
theorem cl15 : callable Try.prog 15 = true := by kernel_rfl
theorem cl17 : callable Try.prog 17 = true := by kernel_rfl
theorem cl23 : callable Try.prog 23 = true := by kernel_rfl
theorem cl24 : callable Try.prog 24 = true := by kernel_rfl
theorem cl26 : callable Try.prog 26 = true := by kernel_rfl
theorem cl27 : callable Try.prog 27 = true := by kernel_rfl
theorem cl28 : callable Try.prog 28 = true := by kernel_rfl
theorem cl30 : callable Try.prog 30 = true := by kernel_rfl
theorem cl32 : callable Try.prog 32 = true := by kernel_rfl
theorem cl33 : callable Try.prog 33 = true := by kernel_rfl
theorem cl34 : callable Try.prog 34 = true := by kernel_rfl
theorem cl36 : callable Try.prog 36 = true := by kernel_rfl
theorem cl37 : callable Try.prog 37 = true := by kernel_rfl
theorem cl38 : callable Try.prog 38 = true := by kernel_rfl
theorem cl39 : callable Try.prog 39 = true := by kernel_rfl
theorem cl40 : callable Try.prog 40 = true := by kernel_rfl
theorem cl41 : callable Try.prog 41 = true := by kernel_rfl
theorem cl42 : callable Try.prog 42 = true := by kernel_rfl
theorem cl43 : callable Try.prog 43 = true := by kernel_rfl
theorem cl44 : callable Try.prog 44 = true := by kernel_rfl
theorem cl45 : callable Try.prog 45 = true := by kernel_rfl
theorem cl46 : callable Try.prog 46 = true := by kernel_rfl
theorem cl47 : callable Try.prog 47 = true := by kernel_rfl
theorem cl48 : callable Try.prog 48 = true := by kernel_rfl
theorem cl49 : callable Try.prog 49 = true := by kernel_rfl
theorem cl50 : callable Try.prog 50 = true := by kernel_rfl
theorem fd24_0 : fldTy Try.prog 24 0 = some (0, 0 + 1, false) := by kernel_rfl
theorem fd24_1 : fldTy Try.prog 24 1 = some (1, 0 + 1, false) := by kernel_rfl
theorem fd31_0 : fldTy Try.prog 31 0 = some (0, 0 + 1, false) := by kernel_rfl
theorem fd31_1 : fldTy Try.prog 31 1 = some (1, 0 + 1, false) := by kernel_rfl
theorem fd33_0 : fldTy Try.prog 33 0 = some (0, 0 + 1, false) := by kernel_rfl
theorem fd33_1 : fldTy Try.prog 33 1 = some (1, 0 + 1, false) := by kernel_rfl
theorem fd36_0 : fldTy Try.prog 36 0 = some (0, 0 + 1, false) := by kernel_rfl
theorem fd36_1 : fldTy Try.prog 36 1 = some (1, 0 + 1, false) := by kernel_rfl
theorem fd39_0 : fldTy Try.prog 39 0 = some (0, 1 + 1, true) := by kernel_rfl
theorem fd39_1 : fldTy Try.prog 39 1 = some (2, 0 + 1, false) := by kernel_rfl
theorem fd39_2 : fldTy Try.prog 39 2 = some (3, 0 + 1, false) := by kernel_rfl
theorem fd39_3 : fldTy Try.prog 39 3 = some (4, 0 + 1, false) := by kernel_rfl
theorem fd39_4 : fldTy Try.prog 39 4 = some (5, 0 + 1, false) := by kernel_rfl
theorem fd67_0 : fldTy Try.prog 67 0 = some (0, 1 + 1, true) := by kernel_rfl
theorem fd67_1 : fldTy Try.prog 67 1 = some (2, 0 + 1, false) := by kernel_rfl
theorem fd67_2 : fldTy Try.prog 67 2 = some (3, 0 + 1, false) := by kernel_rfl
theorem fd67_3 : fldTy Try.prog 67 3 = some (4, 0 + 1, false) := by kernel_rfl
theorem fd67_4 : fldTy Try.prog 67 4 = some (5, 0 + 1, false) := by kernel_rfl
theorem fd70_0 : fldTy Try.prog 70 0 = some (0, 0 + 1, false) := by kernel_rfl
theorem fd70_1 : fldTy Try.prog 70 1 = some (1, 0 + 1, false) := by kernel_rfl
theorem fd70_2 : fldTy Try.prog 70 2 = some (2, 0 + 1, false) := by kernel_rfl
theorem fd70_3 : fldTy Try.prog 70 3 = some (3, 0 + 1, false) := by kernel_rfl
theorem fd70_4 : fldTy Try.prog 70 4 = some (4, 0 + 1, false) := by kernel_rfl
theorem fd70_5 : fldTy Try.prog 70 5 = some (5, 0 + 1, false) := by kernel_rfl
theorem fd78_0 : fldTy Try.prog 78 0 = some (0, 0 + 1, false) := by kernel_rfl
theorem fd78_1 : fldTy Try.prog 78 1 = some (1, 0 + 1, false) := by kernel_rfl
theorem fd78_2 : fldTy Try.prog 78 2 = some (2, 0 + 1, false) := by kernel_rfl
theorem fd78_3 : fldTy Try.prog 78 3 = some (3, 0 + 1, false) := by kernel_rfl
theorem fd78_4 : fldTy Try.prog 78 4 = some (4, 0 + 1, false) := by kernel_rfl
theorem fd78_5 : fldTy Try.prog 78 5 = some (5, 0 + 1, false) := by kernel_rfl
theorem ik3 : intK Try.prog 3 = some .i64 := by kernel_rfl
theorem ik5 : intK Try.prog 5 = some .u8 := by kernel_rfl
theorem iss9 : isStr Try.prog 9 = true := by kernel_rfl
theorem sl22 : slTy Try.prog 22 = some (39, 6, 72) := by kernel_rfl
theorem sl29 : slTy Try.prog 29 = some (67, 6, 72) := by kernel_rfl
theorem sl37 : slTy Try.prog 37 = some (70, 6, 72) := by kernel_rfl
theorem sl65 : slTy Try.prog 65 = some (78, 6, 72) := by kernel_rfl
theorem sl74 : slTy Try.prog 74 = some (5, 1, 1) := by kernel_rfl
theorem stc24 : strTy Try.prog 24 = some ([(0, 1), (1, 1)], [.int .i64 0, .slice none 0 0]) := by kernel_rfl
theorem ty22 : tyK Try.prog 22 = some (false, 1) := by kernel_rfl
theorem ty24 : tyK Try.prog 24 = some (true, 2) := by kernel_rfl
theorem ty29 : tyK Try.prog 29 = some (false, 1) := by kernel_rfl
theorem ty3 : tyK Try.prog 3 = some (false, 1) := by kernel_rfl
theorem ty33 : tyK Try.prog 33 = some (true, 2) := by kernel_rfl
theorem ty36 : tyK Try.prog 36 = some (true, 2) := by kernel_rfl
theorem ty37 : tyK Try.prog 37 = some (false, 1) := by kernel_rfl
theorem ty39 : tyK Try.prog 39 = some (true, 6) := by kernel_rfl
theorem ty65 : tyK Try.prog 65 = some (false, 1) := by kernel_rfl
theorem ty67 : tyK Try.prog 67 = some (true, 6) := by kernel_rfl
theorem ty70 : tyK Try.prog 70 = some (true, 6) := by kernel_rfl
theorem ty78 : tyK Try.prog 78 = some (true, 6) := by kernel_rfl
theorem ty9 : tyK Try.prog 9 = some (false, 1) := by kernel_rfl
theorem zc24 : zeroC Try.prog 24 = some [.int .i64 0, .slice none 0 0] := by kernel_rfl
theorem zc36 : zeroC Try.prog 36 = some [.string ⟨#[]⟩, .int .i64 0] := by kernel_rfl
theorem zc39 : zeroC Try.prog 39 = some [.string ⟨#[]⟩, .int .i64 0, .int .i64 0, .slice none 0 0, .int .i64 0, .int .i64 0] := by kernel_rfl
theorem zc5 : zeroC Try.prog 5 = some [.int .u8 0] := by kernel_rfl
theorem zc70 : zeroC Try.prog 70 = some [.string ⟨#[]⟩, .int .i64 0, .int .i64 0, .int .i64 0, .string ⟨#[]⟩, .string ⟨#[]⟩] := by kernel_rfl
theorem mixed : Try.prog.follows .mixedOrders = true := by kernel_rfl
/- laws.szQuest -/

set_option maxRecDepth 4000 in
set_option maxHeartbeats 800000 in
theorem ww_szQuest (p0 : Quest) (p1 : Int) (r0 : Int) (h : w_szQuest p0 p1 = some r0) : Runs Try.prog 12 [.agg (questV p0), .sc (.int .i64 p1)] [] (.sc (.int .i64 r0)) [] := by
  unfold w_szQuest at h
  refine runsR [.tmp 4] Try.func12 rfl rfl rfl rfl ?_
  rw [Try.ntmps12]
  refine tri_seq ?_
  refine tri_region ?_
  refine s_box rfl rfl rfl rfl rfl rfl rfl ?_
  refine s_mv (.inr rfl) (v := .sc (.int .i64 0)) rfl rfl rfl rfl ?_
  refine rt_nil ?_
  refine tri_seq ?_
  refine tri_region ?_
  refine s_mv (.inl rfl) (by conv => lhs; whnf) rfl rfl rfl ?_
  refine s_fieldAddr rfl rfl fd33_0 rfl rfl rfl rfl ?_
  refine s_load rfl rfl rfl rfl ty9 rfl (.inr rfl) (by conv => lhs; whnf) rfl rfl rfl ?_
  refine s_of (st_lenS rfl rfl iss9) rfl rfl rfl rfl ?_
  refine grd_elim h fun g1 h => ?_
  refine s_subI rfl rfl rfl rfl g1 rfl rfl rfl ?_
  refine s_mv (.inr rfl) (by conv => lhs; whnf) rfl rfl rfl ?_
  refine rt_nil ?_
  refine tri_seq ?_
  refine tri_seq ?_
  refine tri_region ?_
  refine s_mv (.inl rfl) (by conv => lhs; whnf) rfl rfl rfl ?_
  refine s_of (st_lss rfl rfl rfl) rfl rfl rfl rfl ?_
  refine rt_nil ?_
  refine tri_cond rfl (fun c2 => ?_) (fun c2 => ?_)
  · replace h := cond_t h c2
    refine tri_seq ?_
    refine tri_region ?_
    refine s_mv (.inr rfl) (v := .sc (.int .i64 (-1))) rfl rfl rfl rfl ?_
    refine rt_nil ?_
    refine tri_ret ?_
    have e0 := (some1 h); subst e0
    exact endY [] [] (rvC (resTmp rfl) rvN) trivial trivial rfl rfl rfl rfl (.free rfl)
  · replace h := cond_f h c2
    refine tri_skip ?_
    refine tri_seq ?_
    refine tri_region ?_
    refine s_mv (.inl rfl) (by conv => lhs; whnf) rfl rfl rfl ?_
    refine s_mv (.inr rfl) (by conv => lhs; whnf) rfl rfl rfl ?_
    refine rt_nil ?_
    refine tri_ret ?_
    have e0 := (some1 h); subst e0
    exact endY [] [] (rvC (resTmp rfl) rvN) trivial trivial rfl rfl rfl rfl (.free rfl)

/- laws.szRecord -/

set_option maxRecDepth 4000 in
set_option maxHeartbeats 800000 in
theorem ww_szRecord (p0 : Rec) (p1 : Int) (r0 : Int) (h : w_szRecord p0 p1 = some r0) : Runs Try.prog 49 [.agg (recV p0), .sc (.int .i64 p1)] [] (.sc (.int .i64 r0)) [] := by
  unfold w_szRecord at h
  refine runsR [.tmp 4] Try.func49 rfl rfl rfl rfl ?_
  rw [Try.ntmps49]
  refine tri_seq ?_
  refine tri_region ?_
  refine s_box rfl rfl rfl rfl rfl rfl rfl ?_
  refine s_mv (.inr rfl) (v := .sc (.int .i64 0)) rfl rfl rfl rfl ?_
  refine rt_nil ?_
  refine tri_seq ?_
  refine tri_region ?_
  refine s_mv (.inl rfl) (by conv => lhs; whnf) rfl rfl rfl ?_
  refine s_fieldAddr rfl rfl fd78_0 rfl rfl rfl rfl ?_
  refine s_load rfl rfl rfl rfl ty9 rfl (.inr rfl) (by conv => lhs; whnf) rfl rfl rfl ?_
  refine s_of (st_lenS rfl rfl iss9) rfl rfl rfl rfl ?_
  refine grd_elim h fun g1 h => ?_
  refine s_subI rfl rfl rfl rfl g1 rfl rfl rfl ?_
  refine s_mv (.inr rfl) (by conv => lhs; whnf) rfl rfl rfl ?_
  refine rt_nil ?_
  refine tri_seq ?_
  refine tri_seq ?_
  refine tri_region ?_
  refine s_mv (.inl rfl) (by conv => lhs; whnf) rfl rfl rfl ?_
  refine s_of (st_lss rfl rfl rfl) rfl rfl rfl rfl ?_
  refine rt_nil ?_
  refine tri_cond rfl (fun c2 => ?_) (fun c2 => ?_)
  · replace h := cond_t h c2
    refine tri_seq ?_
    refine tri_region ?_
    refine s_mv (.inr rfl) (v := .sc (.int .i64 (-1))) rfl rfl rfl rfl ?_
    refine rt_nil ?_
    refine tri_ret ?_
    have e0 := (some1 h); subst e0
    exact endY [] [] (rvC (resTmp rfl) rvN) trivial trivial rfl rfl rfl rfl (.free rfl)
  · replace h := cond_f h c2
    refine tri_skip ?_
    refine tri_seq ?_
    refine tri_region ?_
    refine s_mv (.inl rfl) (by conv => lhs; whnf) rfl rfl rfl ?_
    refine s_fieldAddr rfl rfl fd78_4 rfl rfl rfl rfl ?_
    refine s_load rfl rfl rfl rfl ty9 rfl (.inr rfl) (by conv => lhs; whnf) rfl rfl rfl ?_
    refine s_of (st_lenS rfl rfl iss9) rfl rfl rfl rfl ?_
    refine grd_elim h fun g3 h => ?_
    refine s_subI rfl rfl rfl rfl g3 rfl rfl rfl ?_
    refine s_mv (.inr rfl) (by conv => lhs; whnf) rfl rfl rfl ?_
    refine rt_nil ?_
    refine tri_seq ?_
    refine tri_seq ?_
    refine tri_region ?_
    refine s_mv (.inl rfl) (by conv => lhs; whnf) rfl rfl rfl ?_
    refine s_of (st_lss rfl rfl rfl) rfl rfl rfl rfl ?_
    refine rt_nil ?_
    refine tri_cond rfl (fun c4 => ?_) (fun c4 => ?_)
    · replace h := cond_t h c4
      refine tri_seq ?_
      refine tri_region ?_
      refine s_mv (.inr rfl) (v := .sc (.int .i64 (-1))) rfl rfl rfl rfl ?_
      refine rt_nil ?_
      refine tri_ret ?_
      have e0 := (some1 h); subst e0
      exact endY [] [] (rvC (resTmp rfl) rvN) trivial trivial rfl rfl rfl rfl (.free rfl)
    · replace h := cond_f h c4
      refine tri_skip ?_
      refine tri_seq ?_
      refine tri_region ?_
      refine s_mv (.inl rfl) (by conv => lhs; whnf) rfl rfl rfl ?_
      refine s_fieldAddr rfl rfl fd78_5 rfl rfl rfl rfl ?_
      refine s_load rfl rfl rfl rfl ty9 rfl (.inr rfl) (by conv => lhs; whnf) rfl rfl rfl ?_
      refine s_of (st_lenS rfl rfl iss9) rfl rfl rfl rfl ?_
      refine grd_elim h fun g5 h => ?_
      refine s_subI rfl rfl rfl rfl g5 rfl rfl rfl ?_
      refine s_mv (.inr rfl) (by conv => lhs; whnf) rfl rfl rfl ?_
      refine rt_nil ?_
      refine tri_seq ?_
      refine tri_seq ?_
      refine tri_region ?_
      refine s_mv (.inl rfl) (by conv => lhs; whnf) rfl rfl rfl ?_
      refine s_of (st_lss rfl rfl rfl) rfl rfl rfl rfl ?_
      refine rt_nil ?_
      refine tri_cond rfl (fun c6 => ?_) (fun c6 => ?_)
      · replace h := cond_t h c6
        refine tri_seq ?_
        refine tri_region ?_
        refine s_mv (.inr rfl) (v := .sc (.int .i64 (-1))) rfl rfl rfl rfl ?_
        refine rt_nil ?_
        refine tri_ret ?_
        have e0 := (some1 h); subst e0
        exact endY [] [] (rvC (resTmp rfl) rvN) trivial trivial rfl rfl rfl rfl (.free rfl)
      · replace h := cond_f h c6
        refine tri_skip ?_
        refine tri_seq ?_
        refine tri_region ?_
        refine s_mv (.inl rfl) (by conv => lhs; whnf) rfl rfl rfl ?_
        refine s_mv (.inr rfl) (by conv => lhs; whnf) rfl rfl rfl ?_
        refine rt_nil ?_
        refine tri_ret ?_
        have e0 := (some1 h); subst e0
        exact endY [] [] (rvC (resTmp rfl) rvN) trivial trivial rfl rfl rfl rfl (.free rfl)

/- laws.szRecordS -/
def inv_w_szRecordS_0 (p0 : List Rec) (v0_0 : Int) (v0_1 : Nat) : St := mkT 27 [(0, .lst 6 (List.map recV p0)), (1, .sc (.int .i64 v0_0)), (5, .sc (.int .i64 (v0_1 : Int)))] []
set_option maxRecDepth 4000 in
set_option maxHeartbeats 800000 in
theorem ww_szRecordS (p0 : List Rec) (p1 : Int) (r0 : Int) (h : w_szRecordS p0 p1 = some r0) : Runs Try.prog 47 [.lst 6 (List.map recV p0), .sc (.int .i64 p1)] [] (.sc (.int .i64 r0)) [] := by
  unfold w_szRecordS at h
  refine runsR [.tmp 4] Try.func47 rfl rfl rfl rfl ?_
  rw [Try.ntmps47]
  refine tri_seq ?_
  refine tri_region ?_
  refine s_mv (.inr rfl) (v := .sc (.int .i64 0)) rfl rfl rfl rfl ?_
  refine rt_nil ?_
  refine tri_seq ?_
  refine tri_region ?_
  refine s_mv (.inl rfl) (by conv => lhs; whnf) rfl rfl rfl ?_
  refine s_mv (.inl rfl) (by conv => lhs; whnf) rfl rfl rfl ?_
  refine s_lenL rfl sl65 rfl rfl rfl rfl ?_
  refine grd_elim h fun g1 h => ?_
  refine s_subI rfl rfl rfl rfl g1 rfl rfl rfl ?_
  refine s_mv (.inr rfl) (by conv => lhs; whnf) rfl rfl rfl ?_
  refine rt_nil ?_
  refine tri_seq ?_
  refine tri_seq ?_
  refine tri_region ?_
  refine s_mv (.inl rfl) (by conv => lhs; whnf) rfl rfl rfl ?_
  refine s_of (st_lss rfl rfl rfl) rfl rfl rfl rfl ?_
  refine rt_nil ?_
  refine tri_cond rfl (fun c2 => ?_) (fun c2 => ?_)
  · replace h := cond_t h c2
    refine tri_seq ?_
    refine tri_region ?_
    refine s_mv (.inr rfl) (v := .sc (.int .i64 (-1))) rfl rfl rfl rfl ?_
    refine rt_nil ?_
    refine tri_ret ?_
    have e0 := (some1 h); subst e0
    exact endY [] [] (rvC (resTmp rfl) rvN) trivial trivial rfl rfl rfl rfl (.free rfl)
  · replace h := cond_f h c2
    refine tri_skip ?_
    refine tri_seq ?_
    refine tri_seq ?_
    refine tri_region ?_
    refine s_mv (.inr rfl) (v := .sc (.int .i64 0)) rfl rfl rfl rfl ?_
    refine rt_nil ?_
    refine tri_block ?_
    refine tri_lstM 0 rfl (fun hl0 => ?_)
    refine tri_loop (ι := { p : (List Rec) × Int × Nat // p0.drop p.2.2 = p.1 ∧ w_szRecordS_l0 p.1 p.2.1 p.2.2 = some r0 }) (fun p => inv_w_szRecordS_0 p0 p.1.2.1 p.1.2.2) (fun p => p.1.1.length) ⟨(p0, p1 - (p0.length : Int), 0), rfl, h⟩ ?_ ?_
    · skip
      refine entX [] [] trivial trivial rfl rfl ?_
      exact ⟨(.free rfl), (.free rfl), (.free rfl), trivial⟩
    · rintro ⟨⟨lrs0, v0_0, v0_1⟩, hd0, h⟩
      replace hd0 : p0.drop v0_1 = lrs0 := hd0
      replace h : w_szRecordS_l0 lrs0 v0_0 v0_1 = some r0 := h
      show Tri _ _ _ (inv_w_szRecordS_0 p0 v0_0 v0_1)
      refine tri_seq ?_
      refine tri_seq ?_
      refine tri_region ?_
      refine s_mv (.inl rfl) (by conv => lhs; whnf) rfl rfl rfl ?_
      refine s_mv (.inl rfl) (by conv => lhs; whnf) rfl rfl rfl ?_
      refine s_lenL rfl sl65 rfl rfl rfl rfl ?_
      refine s_of (st_lss rfl rfl rfl) rfl rfl rfl rfl ?_
      refine rt_nil ?_
      refine tri_cond rfl (fun c3 => ?_) (fun c3 => ?_)
      · refine drop_elim hd0 c3 fun e0 rs0 he hx0 hn0 => ?_
        subst he
        rw [w_szRecordS_l0] at h
        refine tri_skip ?_
        refine tri_seq ?_
        refine tri_block ?_
        refine tri_seq ?_
        refine tri_region ?_
        refine s_mv (.inl rfl) (by conv => lhs; whnf) rfl rfl rfl ?_
        refine s_mv (.inl rfl) (by conv => lhs; whnf) rfl rfl rfl ?_
        refine s_indexF (i := v0_1) rfl rfl rfl sl65 (get_ltM hx0) rfl rfl rfl ?_
        refine s_loadFR rfl rfl (rowG hx0) ty78 rfl rfl rfl ?_
        refine s_mv (.inl rfl) (by conv => lhs; whnf) rfl rfl rfl ?_
        refine bnd1_elim h fun x4 q5 h => ?_
        refine s_callN (kb := []) (ns := []) (v := .sc (.int .i64 x4)) rfl rfl cl49 (ww_szRecord e0 v0_0 x4 q5) rfl (.cons (relAgg rfl) (.cons (.free rfl) .nil)) trivial memNil .nil memNil rfl trivial memNil rfl rfl rfl rfl rfl rfl ?_
        refine s_mv (.inr rfl) (by conv => lhs; whnf) rfl rfl rfl ?_
        refine rt_nil ?_
        refine tri_seq ?_
        refine tri_region ?_
        refine s_mv (.inl rfl) (by conv => lhs; whnf) rfl rfl rfl ?_
        refine s_of (st_lss rfl rfl rfl) rfl rfl rfl rfl ?_
        refine rt_nil ?_
        refine tri_cond rfl (fun c6 => ?_) (fun c6 => ?_)
        · replace h := cond_t h c6
          refine tri_seq ?_
          refine tri_region ?_
          refine s_mv (.inr rfl) (v := .sc (.int .i64 (-1))) rfl rfl rfl rfl ?_
          refine rt_nil ?_
          refine tri_ret ?_
          have e0 := (some1 h); subst e0
          exact endY [] [] (rvC (resTmp rfl) rvN) trivial trivial rfl rfl rfl rfl (.free rfl)
        · replace h := cond_f h c6
          refine tri_skip ?_
          refine tri_region ?_
          refine s_mv (.inl rfl) (by conv => lhs; whnf) rfl rfl rfl ?_
          refine s_inc (a := v0_1) (b := 1) rfl rfl rfl rfl (by have := get_lt hx0; have := hl0; omega) rfl rfl rfl ?_
          refine s_mv (.inr rfl) (by conv => lhs; whnf) rfl rfl rfl ?_
          refine rt_nil ?_
          refine Exists.intro ⟨(rs0, x4, (v0_1 + 1)), hn0, h⟩ (And.intro (Nat.lt_succ_self _) ?_)
          refine entX [] [] trivial trivial rfl rfl ?_
          exact ⟨(.free rfl), (.free rfl), (.free rfl), trivial⟩
      · have he := drop_f hd0 c3; subst he
        rw [w_szRecordS_l0] at h
        refine tri_exit ?_
        refine tri_seq ?_
        refine tri_region ?_
        refine s_mv (.inl rfl) (by conv => lhs; whnf) rfl rfl rfl ?_
        refine s_mv (.inr rfl) (by conv => lhs; whnf) rfl rfl rfl ?_
        refine rt_nil ?_
        refine tri_ret ?_
        have e0 := (some1 h); subst e0
        exact endY [] [] (rvC (resTmp rfl) rvN) trivial trivial rfl rfl rfl rfl (.free rfl)

/- laws.szEntry -/

set_option maxRecDepth 4000 in
set_option maxHeartbeats 800000 in
theorem ww_szEntry (p0 : MEntry) (p1 : Int) (r0 : Int) (h : w_szEntry p0 p1 = some r0) : Runs Try.prog 40 [.agg (mEntryV p0), .sc (.int .i64 p1)] [] (.sc (.int .i64 r0)) [] := by
  unfold w_szEntry at h
  refine runsR [.tmp 4] Try.func40 rfl rfl rfl rfl ?_
  rw [Try.ntmps40]
  refine tri_seq ?_
  refine tri_region ?_
  refine s_box rfl rfl rfl rfl rfl rfl rfl ?_
  refine s_mv (.inr rfl) (v := .sc (.int .i64 0)) rfl rfl rfl rfl ?_
  refine rt_nil ?_
  refine tri_seq ?_
  refine tri_region ?_
  refine s_fieldAddr rfl rfl fd67_0 rfl rfl rfl rfl ?_
  refine s_load (v := .agg (questV p0.q)) rfl rfl rfl rfl ty33 rfl (.inl rfl) rfl rfl rfl rfl ?_
  refine s_mv (.inl rfl) (by conv => lhs; whnf) rfl rfl rfl ?_
  refine bnd1_elim h fun x1 q2 h => ?_
  refine s_callN (kb := []) (ns := []) (v := .sc (.int .i64 x1)) rfl rfl cl12 (ww_szQuest p0.q p1 x1 q2) rfl (.cons (relAgg rfl) (.cons (.free rfl) .nil)) trivial memNil .nil memNil rfl trivial memNil rfl rfl rfl rfl rfl rfl ?_
  refine s_mv (.inr rfl) (by conv => lhs; whnf) rfl rfl rfl ?_
  refine rt_nil ?_
  refine tri_seq ?_
  refine tri_seq ?_
  refine tri_region ?_
  refine s_mv (.inl rfl) (by conv => lhs; whnf) rfl rfl rfl ?_
  refine s_of (st_lss rfl rfl rfl) rfl rfl rfl rfl ?_
  refine rt_nil ?_
  refine tri_cond rfl (fun c3 => ?_) (fun c3 => ?_)
  · replace h := cond_t h c3
    refine tri_seq ?_
    refine tri_region ?_
    refine s_mv (.inr rfl) (v := .sc (.int .i64 (-1))) rfl rfl rfl rfl ?_
    refine rt_nil ?_
    refine tri_ret ?_
    have e0 := (some1 h); subst e0
    exact endY [] [] (rvC (resTmp rfl) rvN) trivial trivial rfl rfl rfl rfl (.free rfl)
  · replace h := cond_f h c3
    refine tri_skip ?_
    refine tri_seq ?_
    refine tri_region ?_
    refine s_fieldAddr rfl rfl fd67_2 rfl rfl rfl rfl ?_
    refine s_load rfl rfl rfl rfl ty65 rfl (.inr rfl) (by conv => lhs; whnf) rfl rfl rfl ?_
    refine s_mv (.inl rfl) (by conv => lhs; whnf) rfl rfl rfl ?_
    refine bnd1_elim h fun x4 q5 h => ?_
    refine s_callN (kb := []) (ns := []) (v := .sc (.int .i64 x4)) rfl rfl cl47 (ww_szRecordS p0.l x1 x4 q5) rfl (.cons (.free rfl) (.cons (.free rfl) .nil)) trivial memNil .nil memNil rfl trivial memNil rfl rfl rfl rfl rfl rfl ?_
    refine s_mv (.inr rfl) (by conv => lhs; whnf) rfl rfl rfl ?_
    refine rt_nil ?_
    refine tri_seq ?_
    refine tri_seq ?_
    refine tri_region ?_
    refine s_mv (.inl rfl) (by conv => lhs; whnf) rfl rfl rfl ?_
    refine s_of (st_lss rfl rfl rfl) rfl rfl rfl rfl ?_
    refine rt_nil ?_
    refine tri_cond rfl (fun c6 => ?_) (fun c6 => ?_)
    · replace h := cond_t h c6
      refine tri_seq ?_
      refine tri_region ?_
      refine s_mv (.inr rfl) (v := .sc (.int .i64 (-1))) rfl rfl rfl rfl ?_
      refine rt_nil ?_
      refine tri_ret ?_
      have e0 := (some1 h); subst e0
      exact endY [] [] (rvC (resTmp rfl) rvN) trivial trivial rfl rfl rfl rfl (.free rfl)
    · replace h := cond_f h c6
      refine tri_skip ?_
      refine tri_seq ?_
      refine tri_region ?_
      refine s_mv (.inl rfl) (by conv => lhs; whnf) rfl rfl rfl ?_
      refine s_mv (.inr rfl) (by conv => lhs; whnf) rfl rfl rfl ?_
      refine rt_nil ?_
      refine tri_ret ?_
      have e0 := (some1 h); subst e0
      exact endY [] [] (rvC (resTmp rfl) rvN) trivial trivial rfl rfl rfl rfl (.free rfl)

/- laws.szEntryS -/
def inv_w_szEntryS_0 (p0 : List MEntry) (v0_0 : Int) (v0_1 : Nat) : St := mkT 27 [(0, .lst 6 (List.map mEntryV p0)), (1, .sc (.int .i64 v0_0)), (5, .sc (.int .i64 (v0_1 : Int)))] []
set_option maxRecDepth 4000 in
set_option maxHeartbeats 800000 in
theorem ww_szEntryS (p0 : List MEntry) (p1 : Int) (r0 : Int) (h : w_szEntryS p0 p1 = some r0) : Runs Try.prog 26 [.lst 6 (List.map mEntryV p0), .sc (.int .i64 p1)] [] (.sc (.int .i64 r0)) [] := by
  unfold w_szEntryS at h
  refine runsR [.tmp 4] Try.func26 rfl rfl rfl rfl ?_
  rw [Try.ntmps26]
  refine tri_seq ?_
  refine tri_region ?_
  refine s_mv (.inr rfl) (v := .sc (.int .i64 0)) rfl rfl rfl rfl ?_
  refine rt_nil ?_
  refine tri_seq ?_
  refine tri_region ?_
  refine s_mv (.inl rfl) (by conv => lhs; whnf) rfl rfl rfl ?_
  refine s_mv (.inl rfl) (by conv => lhs; whnf) rfl rfl rfl ?_
  refine s_lenL rfl sl29 rfl rfl rfl rfl ?_
  refine grd_elim h fun g1 h => ?_
  refine s_subI rfl rfl rfl rfl g1 rfl rfl rfl ?_
  refine s_mv (.inr rfl) (by conv => lhs; whnf) rfl rfl rfl ?_
  refine rt_nil ?_
  refine tri_seq ?_
  refine tri_seq ?_
  refine tri_region ?_
  refine s_mv (.inl rfl) (by conv => lhs; whnf) rfl rfl rfl ?_
  refine s_of (st_lss rfl rfl rfl) rfl rfl rfl rfl ?_
  refine rt_nil ?_
  refine tri_cond rfl (fun c2 => ?_) (fun c2 => ?_)
  · replace h := cond_t h c2
    refine tri_seq ?_
    refine tri_region ?_
    refine s_mv (.inr rfl) (v := .sc (.int .i64 (-1))) rfl rfl rfl rfl ?_
    refine rt_nil ?_
    refine tri_ret ?_
    have e0 := (some1 h); subst e0
    exact endY [] [] (rvC (resTmp rfl) rvN) trivial trivial rfl rfl rfl rfl (.free rfl)
  · replace h := cond_f h c2
    refine tri_skip ?_
    refine tri_seq ?_
    refine tri_seq ?_
    refine tri_region ?_
    refine s_mv (.inr rfl) (v := .sc (.int .i64 0)) rfl rfl rfl rfl ?_
    refine rt_nil ?_
    refine tri_block ?_
    refine tri_lstM 0 rfl (fun hl0 => ?_)
    refine tri_loop (ι := { p : (List MEntry) × Int × Nat // p0.drop p.2.2 = p.1 ∧ w_szEntryS_l0 p.1 p.2.1 p.2.2 = some r0 }) (fun p => inv_w_szEntryS_0 p0 p.1.2.1 p.1.2.2) (fun p => p.1.1.length) ⟨(p0, p1 - (p0.length : Int), 0), rfl, h⟩ ?_ ?_
    · skip
      refine entX [] [] trivial trivial rfl rfl ?_
      exact ⟨(.free rfl), (.free rfl), (.free rfl), trivial⟩
    · rintro ⟨⟨lrs0, v0_0, v0_1⟩, hd0, h⟩
      replace hd0 : p0.drop v0_1 = lrs0 := hd0
      replace h : w_szEntryS_l0 lrs0 v0_0 v0_1 = some r0 := h
      show Tri _ _ _ (inv_w_szEntryS_0 p0 v0_0 v0_1)
      refine tri_seq ?_
      refine tri_seq ?_
      refine tri_region ?_
      refine s_mv (.inl rfl) (by conv => lhs; whnf) rfl rfl rfl ?_
      refine s_mv (.inl rfl) (by conv => lhs; whnf) rfl rfl rfl ?_
      refine s_lenL rfl sl29 rfl rfl rfl rfl ?_
      refine s_of (st_lss rfl rfl rfl) rfl rfl rfl rfl ?_
      refine rt_nil ?_
      refine tri_cond rfl (fun c3 => ?_) (fun c3 => ?_)
      · refine drop_elim hd0 c3 fun e0 rs0 he hx0 hn0 => ?_
        subst he
        rw [w_szEntryS_l0] at h
        refine tri_skip ?_
        refine tri_seq ?_
        refine tri_block ?_
        refine tri_seq ?_
        refine tri_region ?_
        refine s_mv (.inl rfl) (by conv => lhs; whnf) rfl rfl rfl ?_
        refine s_mv (.inl rfl) (by conv => lhs; whnf) rfl rfl rfl ?_
        refine s_indexF (i := v0_1) rfl rfl rfl sl29 (get_ltM hx0) rfl rfl rfl ?_
        refine s_loadFR rfl rfl (rowG hx0) ty67 rfl rfl rfl ?_
        refine s_mv (.inl rfl) (by conv => lhs; whnf) rfl rfl rfl ?_
        refine bnd1_elim h fun x4 q5 h => ?_
        refine s_callN (kb := []) (ns := []) (v := .sc (.int .i64 x4)) rfl rfl cl40 (ww_szEntry e0 v0_0 x4 q5) rfl (.cons (relAgg rfl) (.cons (.free rfl) .nil)) trivial memNil .nil memNil rfl trivial memNil rfl rfl rfl rfl rfl rfl ?_
        refine s_mv (.inr rfl) (by conv => lhs; whnf) rfl rfl rfl ?_
        refine rt_nil ?_
        refine tri_seq ?_
        refine tri_region ?_
        refine s_mv (.inl rfl) (by conv => lhs; whnf) rfl rfl rfl ?_
        refine s_of (st_lss rfl rfl rfl) rfl rfl rfl rfl ?_
        refine rt_nil ?_
        refine tri_cond rfl (fun c6 => ?_) (fun c6 => ?_)
        · replace h := cond_t h c6
          refine tri_seq ?_
          refine tri_region ?_
          refine s_mv (.inr rfl) (v := .sc (.int .i64 (-1))) rfl rfl rfl rfl ?_
          refine rt_nil ?_
          refine tri_ret ?_
          have e0 := (some1 h); subst e0
          exact endY [] [] (rvC (resTmp rfl) rvN) trivial trivial rfl rfl rfl rfl (.free rfl)
        · replace h := cond_f h c6
          refine tri_skip ?_
          refine tri_region ?_
          refine s_mv (.inl rfl) (by conv => lhs; whnf) rfl rfl rfl ?_
          refine s_inc (a := v0_1) (b := 1) rfl rfl rfl rfl (by have := get_lt hx0; have := hl0; omega) rfl rfl rfl ?_
          refine s_mv (.inr rfl) (by conv => lhs; whnf) rfl rfl rfl ?_
          refine rt_nil ?_
          refine Exists.intro ⟨(rs0, x4, (v0_1 + 1)), hn0, h⟩ (And.intro (Nat.lt_succ_self _) ?_)
          refine entX [] [] trivial trivial rfl rfl ?_
          exact ⟨(.free rfl), (.free rfl), (.free rfl), trivial⟩
      · have he := drop_f hd0 c3; subst he
        rw [w_szEntryS_l0] at h
        refine tri_exit ?_
        refine tri_seq ?_
        refine tri_region ?_
        refine s_mv (.inl rfl) (by conv => lhs; whnf) rfl rfl rfl ?_
        refine s_mv (.inr rfl) (by conv => lhs; whnf) rfl rfl rfl ?_
        refine rt_nil ?_
        refine tri_ret ?_
        have e0 := (some1 h); subst e0
        exact endY [] [] (rvC (resTmp rfl) rvN) trivial trivial rfl rfl rfl rfl (.free rfl)

/- laws.szCache -/

set_option maxRecDepth 4000 in
set_option maxHeartbeats 800000 in
theorem ww_szCache (p0 : MCache) (p1 : Int) (r0 : Int) (h : w_szCache p0 p1 = some r0) : Runs Try.prog 11 [.agg (mCacheV p0), .sc (.int .i64 p1)] [] (.sc (.int .i64 r0)) [] := by
  unfold w_szCache at h
  refine runsR [.tmp 4] Try.func11 rfl rfl rfl rfl ?_
  rw [Try.ntmps11]
  refine tri_seq ?_
  refine tri_region ?_
  refine s_box rfl rfl rfl rfl rfl rfl rfl ?_
  refine s_mv (.inr rfl) (v := .sc (.int .i64 0)) rfl rfl rfl rfl ?_
  refine rt_nil ?_
  refine tri_seq ?_
  refine tri_region ?_
  refine s_fieldAddr rfl rfl fd31_1 rfl rfl rfl rfl ?_
  refine s_load rfl rfl rfl rfl ty29 rfl (.inr rfl) (by conv => lhs; whnf) rfl rfl rfl ?_
  refine s_mv (.inl rfl) (by conv => lhs; whnf) rfl rfl rfl ?_
  refine bnd1_elim h fun x1 q2 h => ?_
  refine s_callN (kb := []) (ns := []) (v := .sc (.int .i64 x1)) rfl rfl cl26 (ww_szEntryS p0.l p1 x1 q2) rfl (.cons (.free rfl) (.cons (.free rfl) .nil)) trivial memNil .nil memNil rfl trivial memNil rfl rfl rfl rfl rfl rfl ?_
  refine s_mv (.inr rfl) (by conv => lhs; whnf) rfl rfl rfl ?_
  refine rt_nil ?_
  refine tri_seq ?_
  refine tri_seq ?_
  refine tri_region ?_
  refine s_mv (.inl rfl) (by conv => lhs; whnf) rfl rfl rfl ?_
  refine s_of (st_lss rfl rfl rfl) rfl rfl rfl rfl ?_
  refine rt_nil ?_
  refine tri_cond rfl (fun c3 => ?_) (fun c3 => ?_)
  · replace h := cond_t h c3
    refine tri_seq ?_
    refine tri_region ?_
    refine s_mv (.inr rfl) (v := .sc (.int .i64 (-1))) rfl rfl rfl rfl ?_
    refine rt_nil ?_
    refine tri_ret ?_
    have e0 := (some1 h); subst e0
    exact endY [] [] (rvC (resTmp rfl) rvN) trivial trivial rfl rfl rfl rfl (.free rfl)
  · replace h := cond_f h c3
    refine tri_skip ?_
    refine tri_seq ?_
    refine tri_region ?_
    refine s_mv (.inl rfl) (by conv => lhs; whnf) rfl rfl rfl ?_
    refine s_mv (.inr rfl) (by conv => lhs; whnf) rfl rfl rfl ?_
    refine rt_nil ?_
    refine tri_ret ?_
    have e0 := (some1 h); subst e0
    exact endY [] [] (rvC (resTmp rfl) rvN) trivial trivial rfl rfl rfl rfl (.free rfl)

/- laws.toQuest -/

set_option maxRecDepth 4000 in
set_option maxHeartbeats 800000 in
theorem ww_toQuest (p0 : Quest) (r0 : Quest) (h : w_toQuest p0 = some r0) : Runs Try.prog 15 [.agg (questV p0)] [] (.agg (questV r0)) [] := by
  unfold w_toQuest at h
  refine runsR [.cell 2 36] Try.func15 rfl rfl rfl rfl ?_
  rw [Try.ntmps15]
  refine tri_seq ?_
  refine tri_region ?_
  refine s_box rfl rfl rfl rfl rfl rfl rfl ?_
  refine s_alloc rfl rfl rfl zc36 rfl rfl rfl rfl rfl ?_
  refine rt_nil ?_
  refine tri_seq ?_
  refine tri_region ?_
  refine s_alloc rfl rfl rfl zc36 rfl rfl rfl rfl rfl ?_
  refine rt_nil ?_
  refine tri_seq ?_
  refine tri_region ?_
  refine s_fieldAddr rfl rfl fd33_0 rfl rfl rfl rfl ?_
  refine s_load rfl rfl rfl rfl ty9 rfl (.inr rfl) (by conv => lhs; whnf) rfl rfl rfl ?_
  refine s_fieldAddr rfl rfl fd36_0 rfl rfl rfl rfl ?_
  refine s_store (rows' := [[.sc (.string p0.name), .sc (.int .i64 0)]]) rfl rfl rfl rfl ty9 rfl rfl rfl rfl rfl rfl ?_
  refine rt_nil ?_
  refine tri_seq ?_
  refine tri_region ?_
  refine s_fieldAddr rfl rfl fd33_1 rfl rfl rfl rfl ?_
  refine s_load rfl rfl rfl rfl ty3 rfl (.inr rfl) (by conv => lhs; whnf) rfl rfl rfl ?_
  refine s_fieldAddr rfl rfl fd36_1 rfl rfl rfl rfl ?_
  refine s_store (rows' := [[.sc (.string p0.name), .sc (.int .i64 p0.ty)]]) rfl rfl rfl rfl ty3 rfl rfl rfl rfl rfl rfl ?_
  refine rt_nil ?_
  refine tri_seq ?_
  refine tri_region ?_
  refine s_loadR rfl rfl rfl rfl ty36 rfl rfl rfl ?_
  refine s_storeB rfl rfl rfl ty36 rfl rfl rfl rfl rfl ?_
  refine rt_nil ?_
  refine tri_ret ?_
  have e0 := (some1 h); subst e0
  exact endY [] [] (rvC (resCell rfl rfl ty36) rvN) trivial trivial rfl rfl rfl rfl (cvAgg rfl)

/- laws.toRecord -/

set_option maxRecDepth 4000 in
set_option maxHeartbeats 800000 in
theorem ww_toRecord (p0 : Rec) (r0 : Rec) (h : w_toRecord p0 = some r0) : Runs Try.prog 50 [.agg (recV p0)] [] (.agg (recV r0)) [] := by
  unfold w_toRecord at h
  refine runsR [.cell 2 70] Try.func50 rfl rfl rfl rfl ?_
  rw [Try.ntmps50]
  refine tri_seq ?_
  refine tri_region ?_
  refine s_box rfl rfl rfl rfl rfl rfl rfl ?_
  refine s_alloc rfl rfl rfl zc70 rfl rfl rfl rfl rfl ?_
  refine rt_nil ?_
  refine tri_seq ?_
  refine tri_region ?_
  refine s_alloc rfl rfl rfl zc70 rfl rfl rfl rfl rfl ?_
  refine rt_nil ?_
  refine tri_seq ?_
  refine tri_region ?_
  refine s_fieldAddr rfl rfl fd78_0 rfl rfl rfl rfl ?_
  refine s_load rfl rfl rfl rfl ty9 rfl (.inr rfl) (by conv => lhs; whnf) rfl rfl rfl ?_
  refine s_fieldAddr rfl rfl fd70_0 rfl rfl rfl rfl ?_
  refine s_store (rows' := [[.sc (.string p0.name), .sc (.int .i64 0), .sc (.int .i64 0), .sc (.int .i64 0), .sc (.string (⟨#[]⟩ : ByteArray)), .sc (.string (⟨#[]⟩ : ByteArray))]]) rfl rfl rfl rfl ty9 rfl rfl rfl rfl rfl rfl ?_
  refine rt_nil ?_
  refine tri_seq ?_
  refine tri_region ?_
  refine s_fieldAddr rfl rfl fd78_1 rfl rfl rfl rfl ?_
  refine s_load rfl rfl rfl rfl ty3 rfl (.inr rfl) (by conv => lhs; whnf) rfl rfl rfl ?_
  refine s_fieldAddr rfl rfl fd70_1 rfl rfl rfl rfl ?_
  refine s_store (rows' := [[.sc (.string p0.name), .sc (.int .i64 p0.ty), .sc (.int .i64 0), .sc (.int .i64 0), .sc (.string (⟨#[]⟩ : ByteArray)), .sc (.string (⟨#[]⟩ : ByteArray))]]) rfl rfl rfl rfl ty3 rfl rfl rfl rfl rfl rfl ?_
  refine rt_nil ?_
  refine tri_seq ?_
  refine tri_region ?_
  refine s_fieldAddr rfl rfl fd78_2 rfl rfl rfl rfl ?_
  refine s_load rfl rfl rfl rfl ty3 rfl (.inr rfl) (by conv => lhs; whnf) rfl rfl rfl ?_
  refine s_fieldAddr rfl rfl fd70_2 rfl rfl rfl rfl ?_
  refine s_store (rows' := [[.sc (.string p0.name), .sc (.int .i64 p0.ty), .sc (.int .i64 p0.ttl), .sc (.int .i64 0), .sc (.string (⟨#[]⟩ : ByteArray)), .sc (.string (⟨#[]⟩ : ByteArray))]]) rfl rfl rfl rfl ty3 rfl rfl rfl rfl rfl rfl ?_
  refine rt_nil ?_
  refine tri_seq ?_
  refine tri_region ?_
  refine s_fieldAddr rfl rfl fd78_3 rfl rfl rfl rfl ?_
  refine s_load rfl rfl rfl rfl ty3 rfl (.inr rfl) (by conv => lhs; whnf) rfl rfl rfl ?_
  refine s_fieldAddr rfl rfl fd70_3 rfl rfl rfl rfl ?_
  refine s_store (rows' := [[.sc (.string p0.name), .sc (.int .i64 p0.ty), .sc (.int .i64 p0.ttl), .sc (.int .i64 p0.n), .sc (.string (⟨#[]⟩ : ByteArray)), .sc (.string (⟨#[]⟩ : ByteArray))]]) rfl rfl rfl rfl ty3 rfl rfl rfl rfl rfl rfl ?_
  refine rt_nil ?_
  refine tri_seq ?_
  refine tri_region ?_
  refine s_fieldAddr rfl rfl fd78_4 rfl rfl rfl rfl ?_
  refine s_load rfl rfl rfl rfl ty9 rfl (.inr rfl) (by conv => lhs; whnf) rfl rfl rfl ?_
  refine s_fieldAddr rfl rfl fd70_4 rfl rfl rfl rfl ?_
  refine s_store (rows' := [[.sc (.string p0.name), .sc (.int .i64 p0.ty), .sc (.int .i64 p0.ttl), .sc (.int .i64 p0.n), .sc (.string p0.host), .sc (.string (⟨#[]⟩ : ByteArray))]]) rfl rfl rfl rfl ty9 rfl rfl rfl rfl rfl rfl ?_
  refine rt_nil ?_
  refine tri_seq ?_
  refine tri_region ?_
  refine s_fieldAddr rfl rfl fd78_5 rfl rfl rfl rfl ?_
  refine s_load rfl rfl rfl rfl ty9 rfl (.inr rfl) (by conv => lhs; whnf) rfl rfl rfl ?_
  refine s_fieldAddr rfl rfl fd70_5 rfl rfl rfl rfl ?_
  refine s_store (rows' := [[.sc (.string p0.name), .sc (.int .i64 p0.ty), .sc (.int .i64 p0.ttl), .sc (.int .i64 p0.n), .sc (.string p0.host), .sc (.string p0.text)]]) rfl rfl rfl rfl ty9 rfl rfl rfl rfl rfl rfl ?_
  refine rt_nil ?_
  refine tri_seq ?_
  refine tri_region ?_
  refine s_loadR rfl rfl rfl rfl ty70 rfl rfl rfl ?_
  refine s_storeB rfl rfl rfl ty70 rfl rfl rfl rfl rfl ?_
  refine rt_nil ?_
  refine tri_ret ?_
  have e0 := (some1 h); subst e0
  exact endY [] [] (rvC (resCell rfl rfl ty70) rvN) trivial trivial rfl rfl rfl rfl (cvAgg rfl)

/- laws.toRecordS -/
def inv_w_toRecordS_0 (p0 : List Rec) (v0_0 : List Rec) (v0_1 : Nat) : St := mkT 23 [(0, .lst 6 (List.map recV p0)), (3, .ref (7, 0) 0 v0_0.length), (4, .sc (.int .i64 (v0_1 : Int)))] [((7, 0), some ⟨70, 6, List.map recV v0_0, false, true⟩)]
set_option maxRecDepth 4000 in
set_option maxHeartbeats 800000 in
theorem ww_toRecordS (p0 : List Rec) (r0 : List Rec) (h : w_toRecordS p0 = some r0) : Runs Try.prog 48 [.lst 6 (List.map recV p0)] [] (.own 70 6 (List.map recV r0)) [] := by
  unfold w_toRecordS at h
  refine runsR [.tmp 2] Try.func48 rfl rfl rfl rfl ?_
  rw [Try.ntmps48]
  refine tri_seq ?_
  refine tri_region ?_
  refine s_mv (.inr rfl) (v := .nils) rfl rfl rfl rfl ?_
  refine rt_nil ?_
  refine tri_seq ?_
  refine tri_region ?_
  refine s_mv (.inl rfl) (by conv => lhs; whnf) rfl rfl rfl ?_
  refine s_lenL rfl sl65 rfl rfl rfl rfl ?_
  refine grd_elim h fun g1 h => ?_
  refine s_makeL (f := recV) (a := Rec.mk (⟨#[]⟩ : ByteArray) 0 0 0 (⟨#[]⟩ : ByteArray) (⟨#[]⟩ : ByteArray)) rfl rfl rfl rfl rfl sl37 zc70 rfl rfl rfl rfl g1.1 g1.2 (rowZ_cv rfl (rowZ_cv rfl (rowZ_cv rfl (rowZ_cv rfl (rowZ_cv rfl (rowZ_cv rfl rowZ_nil)))))) rfl rfl ?_
  refine s_mv (.inr rfl) (by conv => lhs; whnf) rfl rfl rfl ?_
  refine rt_nil ?_
  refine tri_seq ?_
  refine tri_seq ?_
  refine tri_region ?_
  refine s_mv (.inr rfl) (v := .sc (.int .i64 0)) rfl rfl rfl rfl ?_
  refine rt_nil ?_
  refine tri_block ?_
  refine tri_lstM 0 rfl (fun hl0 => ?_)
  refine tri_loop (ι := { p : (List Rec) × (List Rec) × Nat // p0.drop p.2.2 = p.1 ∧ w_toRecordS_l0 p.1 p.2.1 p.2.2 = some r0 }) (fun p => inv_w_toRecordS_0 p0 p.1.2.1 p.1.2.2) (fun p => p.1.1.length) ⟨(p0, List.replicate (p0.length : Int).toNat (Rec.mk (⟨#[]⟩ : ByteArray) 0 0 0 (⟨#[]⟩ : ByteArray) (⟨#[]⟩ : ByteArray)), 0), rfl, h⟩ ?_ ?_
  · skip
    refine entX [((7, 0), ⟨70, 6, List.map recV (List.replicate (p0.length : Int).toNat (Rec.mk (⟨#[]⟩ : ByteArray) 0 0 0 (⟨#[]⟩ : ByteArray) (⟨#[]⟩ : ByteArray))), false, true⟩, some (7, 0))] [] ⟨⟨rfl, _, rfl, rfl, rfl, rfl, id, rowsCv_eq rfl (allFree_map recV_free), rowsZ_map recV_len⟩, trivial⟩ trivial rfl rfl ?_
    exact ⟨(.free rfl), (.ref rfl), (.free rfl), trivial⟩
  · rintro ⟨⟨lrs0, v0_0, v0_1⟩, hd0, h⟩
    replace hd0 : p0.drop v0_1 = lrs0 := hd0
    replace h : w_toRecordS_l0 lrs0 v0_0 v0_1 = some r0 := h
    show Tri _ _ _ (inv_w_toRecordS_0 p0 v0_0 v0_1)
    refine tri_seq ?_
    refine tri_seq ?_
    refine tri_region ?_
    refine s_mv (.inl rfl) (by conv => lhs; whnf) rfl rfl rfl ?_
    refine s_mv (.inl rfl) (by conv => lhs; whnf) rfl rfl rfl ?_
    refine s_lenL rfl sl65 rfl rfl rfl rfl ?_
    refine s_of (st_lss rfl rfl rfl) rfl rfl rfl rfl ?_
    refine rt_nil ?_
    refine tri_cond rfl (fun c2 => ?_) (fun c2 => ?_)
    · refine drop_elim hd0 c2 fun e0 rs0 he hx0 hn0 => ?_
      subst he
      rw [w_toRecordS_l0] at h
      refine tri_skip ?_
      refine tri_seq ?_
      refine tri_block ?_
      refine tri_region ?_
      refine s_mv (.inl rfl) (by conv => lhs; whnf) rfl rfl rfl ?_
      refine s_mv (.inl rfl) (by conv => lhs; whnf) rfl rfl rfl ?_
      refine s_mv (.inl rfl) (by conv => lhs; whnf) rfl rfl rfl ?_
      refine s_mv (.inl rfl) (by conv => lhs; whnf) rfl rfl rfl ?_
      refine s_indexF (i := v0_1) rfl rfl rfl sl65 (get_ltM hx0) rfl rfl rfl ?_
      refine s_loadFR rfl rfl (rowG hx0) ty78 rfl rfl rfl ?_
      refine bnd1_elim h fun x3 q4 h => ?_
      refine s_callN (kb := []) (ns := []) (v := .agg (recV x3)) rfl rfl cl50 (ww_toRecord e0 x3 q4) rfl (.cons (relAgg rfl) .nil) trivial memNil .nil memNil rfl trivial memNil rfl rfl rfl rfl rfl rfl ?_
      refine bnd1_elim h fun x5 q6 h => ?_
      have q6a := (idx_some q6).1; have q6b := (idx_some q6).2
      refine s_indexZ rfl rfl rfl rfl sl37 rfl q6a (get_lt q6b) rfl rfl rfl ?_
      refine s_storeL (x' := x3) rfl rfl rfl q6b ty70 rfl rfl rfl rfl rfl rfl ?_
      refine rt_nil ?_
      refine tri_region ?_
      refine s_mv (.inl rfl) (by conv => lhs; whnf) rfl rfl rfl ?_
      refine s_inc (a := v0_1) (b := 1) rfl rfl rfl rfl (by have := get_lt hx0; have := hl0; omega) rfl rfl rfl ?_
      refine s_mv (.inr rfl) (by conv => lhs; whnf) rfl rfl rfl ?_
      refine rt_nil ?_
      refine Exists.intro ⟨(rs0, v0_0.set ((v0_1 : Int).toNat) x3, (v0_1 + 1)), hn0, h⟩ (And.intro (Nat.lt_succ_self _) ?_)
      refine entX [((7, 0), ⟨70, 6, List.map recV (v0_0.set ((v0_1 : Int).toNat) x3), false, true⟩, some (7, 0))] [] ⟨⟨rfl, _, rfl, rfl, rfl, rfl, id, rowsCv_eq rfl (allFree_map recV_free), rowsZ_map recV_len⟩, trivial⟩ trivial rfl rfl ?_
      exact ⟨(.free rfl), (cvRefLen rfl (by simp only [List.length_set])), (.free rfl), trivial⟩
    · have he := drop_f hd0 c2; subst he
      rw [w_toRecordS_l0] at h
      refine tri_exit ?_
      refine tri_seq ?_
      refine tri_region ?_
      refine s_mv (.inl rfl) (by conv => lhs; whnf) rfl rfl rfl ?_
      refine s_mv (.inr rfl) (by conv => lhs; whnf) rfl rfl rfl ?_
      refine rt_nil ?_
      refine tri_ret ?_
      have e0 := (some1 h); subst e0
      exact endY (v' := .ref (2000, 0) 0 v0_0.length) [((2000, 0), ⟨70, 6, List.map recV v0_0, false, true⟩, some (7, 0))] [] (rvC (resTmp rfl) rvN) ⟨⟨rfl, _, rfl, rfl, rfl, rfl, id, rowsCv_eq rfl (allFree_map recV_free), rowsZ_map recV_len⟩, trivial⟩ trivial rfl rfl (by kernel_rfl) (by first | (simp only [V.mat, V.mat1, V.mat0, matL, matT, List.length_map]; done) | (simp only [V.mat, V.mat1, V.mat0, matL, matT, List.length_map]; rfl)) (.ref rfl)

/- laws.toEntry -/

set_option maxRecDepth 4000 in
set_option maxHeartbeats 800000 in
theorem ww_toEntry (p0 : MEntry) (r0 : MEntry) (h : w_toEntry p0 = some r0) : Runs Try.prog 42 [.agg (mEntryV p0)] [] (.agg [.sc (.string r0.q.name), .sc (.int .i64 r0.q.ty), .sc (.int .i64 r0.kind), .own 70 6 (List.map recV r0.l), .sc (.int .i64 r0.rank), .sc (.int .i64 r0.til)]) [] := by
  unfold w_toEntry at h
  refine runsR [.cell 2 39] Try.func42 rfl rfl rfl rfl ?_
  rw [Try.ntmps42]
  refine tri_seq ?_
  refine tri_region ?_
  refine s_box rfl rfl rfl rfl rfl rfl rfl ?_
  refine s_alloc rfl rfl rfl zc39 rfl rfl rfl rfl rfl ?_
  refine rt_nil ?_
  refine tri_seq ?_
  refine tri_region ?_
  refine s_alloc rfl rfl rfl zc39 rfl rfl rfl rfl rfl ?_
  refine rt_nil ?_
  refine tri_seq ?_
  refine tri_region ?_
  refine s_fieldAddr rfl rfl fd67_0 rfl rfl rfl rfl ?_
  refine s_load (v := .agg (questV p0.q)) rfl rfl rfl rfl ty33 rfl (.inl rfl) rfl rfl rfl rfl ?_
  refine bnd1_elim h fun x1 q2 h => ?_
  refine s_callN (kb := []) (ns := []) (v := .agg (questV x1)) rfl rfl cl15 (ww_toQuest p0.q x1 q2) rfl (.cons (relAgg rfl) .nil) trivial memNil .nil memNil rfl trivial memNil rfl rfl rfl rfl rfl rfl ?_
  refine s_fieldAddr rfl rfl fd39_0 rfl rfl rfl rfl ?_
  refine s_store (rows' := [[.sc (.string x1.name), .sc (.int .i64 x1.ty), .sc (.int .i64 0), .nils, .sc (.int .i64 0), .sc (.int .i64 0)]]) rfl rfl rfl rfl ty36 rfl rfl rfl rfl rfl rfl ?_
  refine rt_nil ?_
  refine tri_seq ?_
  refine tri_region ?_
  refine s_fieldAddr rfl rfl fd67_1 rfl rfl rfl rfl ?_
  refine s_load rfl rfl rfl rfl ty3 rfl (.inr rfl) (by conv => lhs; whnf) rfl rfl rfl ?_
  refine s_fieldAddr rfl rfl fd39_1 rfl rfl rfl rfl ?_
  refine s_store (rows' := [[.sc (.string x1.name), .sc (.int .i64 x1.ty), .sc (.int .i64 p0.kind), .nils, .sc (.int .i64 0), .sc (.int .i64 0)]]) rfl rfl rfl rfl ty3 rfl rfl rfl rfl rfl rfl ?_
  refine rt_nil ?_
  refine tri_seq ?_
  refine tri_region ?_
  refine s_fieldAddr rfl rfl fd67_2 rfl rfl rfl rfl ?_
  refine s_load rfl rfl rfl rfl ty65 rfl (.inr rfl) (by conv => lhs; whnf) rfl rfl rfl ?_
  refine bnd1_elim h fun x3 q4 h => ?_
  refine s_callN (kb := []) (ns := []) (v := .ref (13, 0) 0 x3.length) rfl rfl cl48 (ww_toRecordS p0.l x3 q4) rfl (.cons (.free rfl) .nil) trivial memNil .nil memNil rfl ⟨(allSc_map recV_sc), trivial⟩ memNil rfl (by first | (simp only [V.mat, V.mat1, V.mat0, matL, matT, List.length_map]; done) | (simp only [V.mat, V.mat1, V.mat0, matL, matT, List.length_map]; rfl)) rfl rfl rfl rfl ?_
  refine s_fieldAddr rfl rfl fd39_2 rfl rfl rfl rfl ?_
  refine s_store (rows' := [[.sc (.string x1.name), .sc (.int .i64 x1.ty), .sc (.int .i64 p0.kind), .ref (13, 0) 0 x3.length, .sc (.int .i64 0), .sc (.int .i64 0)]]) rfl rfl rfl rfl ty37 rfl rfl rfl rfl rfl rfl ?_
  refine rt_nil ?_
  refine tri_seq ?_
  refine tri_region ?_
  refine s_fieldAddr rfl rfl fd67_3 rfl rfl rfl rfl ?_
  refine s_load rfl rfl rfl rfl ty3 rfl (.inr rfl) (by conv => lhs; whnf) rfl rfl rfl ?_
  refine s_fieldAddr rfl rfl fd39_3 rfl rfl rfl rfl ?_
  refine s_store (rows' := [[.sc (.string x1.name), .sc (.int .i64 x1.ty), .sc (.int .i64 p0.kind), .ref (13, 0) 0 x3.length, .sc (.int .i64 p0.rank), .sc (.int .i64 0)]]) rfl rfl rfl rfl ty3 rfl rfl rfl rfl rfl rfl ?_
  refine rt_nil ?_
  refine tri_seq ?_
  refine tri_region ?_
  refine s_fieldAddr rfl rfl fd67_4 rfl rfl rfl rfl ?_
  refine s_load rfl rfl rfl rfl ty3 rfl (.inr rfl) (by conv => lhs; whnf) rfl rfl rfl ?_
  refine s_fieldAddr rfl rfl fd39_4 rfl rfl rfl rfl ?_
  refine s_store (rows' := [[.sc (.string x1.name), .sc (.int .i64 x1.ty), .sc (.int .i64 p0.kind), .ref (13, 0) 0 x3.length, .sc (.int .i64 p0.rank), .sc (.int .i64 p0.til)]]) rfl rfl rfl rfl ty3 rfl rfl rfl rfl rfl rfl ?_
  refine rt_nil ?_
  refine tri_seq ?_
  refine tri_region ?_
  refine s_loadR rfl rfl rfl rfl ty39 rfl rfl rfl ?_
  refine s_storeB rfl rfl rfl ty39 rfl rfl rfl rfl rfl ?_
  refine rt_nil ?_
  refine tri_ret ?_
  have e0 := (some1 h); subst e0
  exact endY (v' := .agg [.sc (.string x1.name), .sc (.int .i64 x1.ty), .sc (.int .i64 p0.kind), .ref (2000, 3) 0 x3.length, .sc (.int .i64 p0.rank), .sc (.int .i64 p0.til)]) [((2000, 3), ⟨70, 6, List.map recV x3, false, true⟩, some (13, 0))] [] (rvC (resCell rfl rfl ty39) rvN) ⟨⟨rfl, _, rfl, rfl, rfl, rfl, id, rowsCv_eq rfl (allFree_map recV_free), rowsZ_map recV_len⟩, trivial⟩ trivial rfl rfl (by kernel_rfl) (by first | (simp only [V.mat, V.mat1, V.mat0, matL, matT, List.length_map]; done) | (simp only [V.mat, V.mat1, V.mat0, matL, matT, List.length_map]; rfl)) (CvL.agg (.cons (.free rfl) (.cons (.free rfl) (.cons (.free rfl) (.cons (.ref rfl) (.cons (.free rfl) (.cons (.free rfl) .nil)))))))

/- laws.toEntryS -/
def inv_w_toEntryS_0 (p0 : List MEntry) (v0_0 : List MEntry) (v0_1 : Nat) : St := mkT 23 [(0, .lst 6 (List.map mEntryV p0)), (3, .ref (7, 0) 0 v0_0.length), (4, .sc (.int .i64 (v0_1 : Int)))] [((7, 0), some ⟨39, 6, List.map mEntryV v0_0, false, true⟩)]
set_option maxRecDepth 4000 in
set_option maxHeartbeats 800000 in
theorem ww_toEntryS (p0 : List MEntry) (r0 : List MEntry) (h : w_toEntryS p0 = some r0) : Runs Try.prog 30 [.lst 6 (List.map mEntryV p0)] [] (.own 39 6 (List.map mEntryV r0)) [] := by
  unfold w_toEntryS at h
  refine runsR [.tmp 2] Try.func30 rfl rfl rfl rfl ?_
  rw [Try.ntmps30]
  refine tri_seq ?_
  refine tri_region ?_
  refine s_mv (.inr rfl) (v := .nils) rfl rfl rfl rfl ?_
  refine rt_nil ?_
  refine tri_seq ?_
  refine tri_region ?_
  refine s_mv (.inl rfl) (by conv => lhs; whnf) rfl rfl rfl ?_
  refine s_lenL rfl sl29 rfl rfl rfl rfl ?_
  refine grd_elim h fun g1 h => ?_
  refine s_makeL (f := mEntryV) (a := MEntry.mk (Quest.mk (⟨#[]⟩ : ByteArray) 0) 0 ([] : List Rec) 0 0) rfl rfl rfl rfl rfl sl22 zc39 rfl rfl rfl rfl g1.1 g1.2 (rowZ_cv rfl (rowZ_cv rfl (rowZ_cv rfl (rowZ_lst (rowZ_cv rfl (rowZ_cv rfl rowZ_nil)))))) rfl rfl ?_
  refine s_mv (.inr rfl) (by conv => lhs; whnf) rfl rfl rfl ?_
  refine rt_nil ?_
  refine tri_seq ?_
  refine tri_seq ?_
  refine tri_region ?_
  refine s_mv (.inr rfl) (v := .sc (.int .i64 0)) rfl rfl rfl rfl ?_
  refine rt_nil ?_
  refine tri_block ?_
  refine tri_lstM 0 rfl (fun hl0 => ?_)
  refine tri_loop (ι := { p : (List MEntry) × (List MEntry) × Nat // p0.drop p.2.2 = p.1 ∧ w_toEntryS_l0 p.1 p.2.1 p.2.2 = some r0 }) (fun p => inv_w_toEntryS_0 p0 p.1.2.1 p.1.2.2) (fun p => p.1.1.length) ⟨(p0, List.replicate (p0.length : Int).toNat (MEntry.mk (Quest.mk (⟨#[]⟩ : ByteArray) 0) 0 ([] : List Rec) 0 0), 0), rfl, h⟩ ?_ ?_
  · skip
    refine entX [((7, 0), ⟨39, 6, List.map mEntryV (List.replicate (p0.length : Int).toNat (MEntry.mk (Quest.mk (⟨#[]⟩ : ByteArray) 0) 0 ([] : List Rec) 0 0)), false, true⟩, some (7, 0))] [] ⟨⟨rfl, _, rfl, rfl, rfl, rfl, id, rowsCv_eq rfl (allFree_map mEntryV_free), rowsZ_map mEntryV_len⟩, trivial⟩ trivial rfl rfl ?_
    exact ⟨(.free rfl), (.ref rfl), (.free rfl), trivial⟩
  · rintro ⟨⟨lrs0, v0_0, v0_1⟩, hd0, h⟩
    replace hd0 : p0.drop v0_1 = lrs0 := hd0
    replace h : w_toEntryS_l0 lrs0 v0_0 v0_1 = some r0 := h
    show Tri _ _ _ (inv_w_toEntryS_0 p0 v0_0 v0_1)
    refine tri_seq ?_
    refine tri_seq ?_
    refine tri_region ?_
    refine s_mv (.inl rfl) (by conv => lhs; whnf) rfl rfl rfl ?_
    refine s_mv (.inl rfl) (by conv => lhs; whnf) rfl rfl rfl ?_
    refine s_lenL rfl sl29 rfl rfl rfl rfl ?_
    refine s_of (st_lss rfl rfl rfl) rfl rfl rfl rfl ?_
    refine rt_nil ?_
    refine tri_cond rfl (fun c2 => ?_) (fun c2 => ?_)
    · refine drop_elim hd0 c2 fun e0 rs0 he hx0 hn0 => ?_
      subst he
      rw [w_toEntryS_l0] at h
      refine tri_skip ?_
      refine tri_seq ?_
      refine tri_block ?_
      refine tri_region ?_
      refine s_mv (.inl rfl) (by conv => lhs; whnf) rfl rfl rfl ?_
      refine s_mv (.inl rfl) (by conv => lhs; whnf) rfl rfl rfl ?_
      refine s_mv (.inl rfl) (by conv => lhs; whnf) rfl rfl rfl ?_
      refine s_mv (.inl rfl) (by conv => lhs; whnf) rfl rfl rfl ?_
      refine s_indexF (i := v0_1) rfl rfl rfl sl29 (get_ltM hx0) rfl rfl rfl ?_
      refine s_loadFR rfl rfl (rowG hx0) ty67 rfl rfl rfl ?_
      refine bnd1_elim h fun x3 q4 h => ?_
      refine s_callNF (kb := []) (ns := []) (v := .agg [.sc (.string x3.q.name), .sc (.int .i64 x3.q.ty), .sc (.int .i64 x3.kind), .ref (20, 3) 0 x3.l.length, .sc (.int .i64 x3.rank), .sc (.int .i64 x3.til)]) (D := [(20, 3)]) rfl rfl cl42 (ww_toEntry e0 x3 q4) rfl (.cons (relAgg rfl) .nil) trivial memNil .nil memNil rfl ⟨(allSc_map recV_sc), trivial⟩ memNil rfl (by first | (simp only [V.mat, V.mat1, V.mat0, matL, matT, List.length_map]; done) | (simp only [V.mat, V.mat1, V.mat0, matL, matT, List.length_map]; rfl)) rfl ⟨⟨rfl, rfl, _, rfl, rfl⟩, trivial⟩ (relAggL (.cons (.free rfl) (.cons (.free rfl) (.cons (.free rfl) (.cons (lendL rfl (.head _) rfl recV_free recV_len) (.cons (.free rfl) (.cons (.free rfl) .nil))))))) rfl rfl rfl ?_
      refine bnd1_elim h fun x5 q6 h => ?_
      have q6a := (idx_some q6).1; have q6b := (idx_some q6).2
      refine s_indexZ rfl rfl rfl rfl sl22 rfl q6a (get_lt q6b) rfl rfl rfl ?_
      refine s_storeL (x' := x3) rfl rfl rfl q6b ty39 rfl rfl rfl rfl rfl rfl ?_
      refine rt_nil ?_
      refine tri_region ?_
      refine s_mv (.inl rfl) (by conv => lhs; whnf) rfl rfl rfl ?_
      refine s_inc (a := v0_1) (b := 1) rfl rfl rfl rfl (by have := get_lt hx0; have := hl0; omega) rfl rfl rfl ?_
      refine s_mv (.inr rfl) (by conv => lhs; whnf) rfl rfl rfl ?_
      refine rt_nil ?_
      refine Exists.intro ⟨(rs0, v0_0.set ((v0_1 : Int).toNat) x3, (v0_1 + 1)), hn0, h⟩ (And.intro (Nat.lt_succ_self _) ?_)
      refine entX [((7, 0), ⟨39, 6, List.map mEntryV (v0_0.set ((v0_1 : Int).toNat) x3), false, true⟩, some (7, 0))] [] ⟨⟨rfl, _, rfl, rfl, rfl, rfl, id, rowsCv_eq rfl (allFree_map mEntryV_free), rowsZ_map mEntryV_len⟩, trivial⟩ trivial rfl rfl ?_
      exact ⟨(.free rfl), (cvRefLen rfl (by simp only [List.length_set])), (.free rfl), trivial⟩
    · have he := drop_f hd0 c2; subst he
      rw [w_toEntryS_l0] at h
      refine tri_exit ?_
      refine tri_seq ?_
      refine tri_region ?_
      refine s_mv (.inl rfl) (by conv => lhs; whnf) rfl rfl rfl ?_
      refine s_mv (.inr rfl) (by conv => lhs; whnf) rfl rfl rfl ?_
      refine rt_nil ?_
      refine tri_ret ?_
      have e0 := (some1 h); subst e0
      exact endY (v' := .ref (2000, 0) 0 v0_0.length) [((2000, 0), ⟨39, 6, List.map mEntryV v0_0, false, true⟩, some (7, 0))] [] (rvC (resTmp rfl) rvN) ⟨⟨rfl, _, rfl, rfl, rfl, rfl, id, rowsCv_eq rfl (allFree_map mEntryV_free), rowsZ_map mEntryV_len⟩, trivial⟩ trivial rfl rfl (by kernel_rfl) (by first | (simp only [V.mat, V.mat1, V.mat0, matL, matT, List.length_map]; done) | (simp only [V.mat, V.mat1, V.mat0, matL, matT, List.length_map]; rfl)) (.ref rfl)
def mEntryN (m : Nm) (x : MEntry) : List V := [.sc (.string x.q.name), .sc (.int .i64 x.q.ty), .sc (.int .i64 x.kind), .ref m 0 x.l.length, .sc (.int .i64 x.rank), .sc (.int .i64 x.til)]
def mEntryG (x : MEntry) : Entry := ⟨70, 6, List.map recV x.l, false, true⟩
theorem mEntryN_z (m : Nm) (x : MEntry) : (mEntryN m x).length = 6 := rfl
theorem mEntryN_cv {hp : Heap} {src : Nm → Option Nm} {D : List Nm} {N : Nm → Option Nat} {m m' : Nm} (x : MEntry) (h : src m' = some m) : CvL hp src D N (mEntryN m x) (mEntryN m' x) := (.cons (.free rfl) (.cons (.free rfl) (.cons (.free rfl) (.cons (.ref h) (.cons (.free rfl) (.cons (.free rfl) .nil))))))
theorem mEntryG_f (x : MEntry) : AllFree (mEntryG x).rows := allFree_map recV_free
theorem mEntryG_z (x : MEntry) (r : List V) (hr : r ∈ (mEntryG x).rows) : r.length = (mEntryG x).z := rowsZ_map recV_len r hr
def mEntryP (x : MEntry) : Entry := ⟨70, 6, List.map recV x.l, false, false⟩
theorem mEntryP_f (x : MEntry) : AllFree (mEntryP x).rows := allFree_map recV_free
theorem mEntryP_z (x : MEntry) (r : List V) (hr : r ∈ (mEntryP x).rows) : r.length = (mEntryP x).z := rowsZ_map recV_len r hr

def invR_w_toEntryS_0 (p0 : List MEntry) (v0_0 : List MEntry) (v0_1 : Nat) : St := mkT 23 [(0, .lst 6 (List.map mEntryV p0)), (3, .ref (7, 0) 0 v0_0.length), (4, .sc (.int .i64 (v0_1 : Int)))] (((7, 0), some ⟨39, 6, nr 3000 mEntryN 0 v0_0, false, true⟩) :: (fam 3000 0 (List.map mEntryG v0_0) ++ []))
set_option maxRecDepth 4000 in
set_option maxHeartbeats 800000 in
theorem wRw_toEntryS (p0 : List MEntry) (r0 : List MEntry) (h : w_toEntryS p0 = some r0) : RunsG Try.prog 30 [.lst 6 (List.map mEntryV p0)] [] (.ref (2000, 0) 0 r0.length) ((0, ⟨39, 6, nr 2000 mEntryN 10000 r0, false, true⟩) :: famO 10000 (List.map mEntryG r0)) [] := by
  unfold w_toEntryS at h
  refine runsG [.tmp 2] Try.func30 rfl rfl rfl rfl ?_
  rw [Try.ntmps30]
  refine tri_seq ?_
  refine tri_region ?_
  refine s_mv (.inr rfl) (v := .nils) rfl rfl rfl rfl ?_
  refine rt_nil ?_
  refine tri_seq ?_
  refine tri_region ?_
  refine s_mv (.inl rfl) (by conv => lhs; whnf) rfl rfl rfl ?_
  refine s_lenL rfl sl29 rfl rfl rfl rfl ?_
  refine grd_elim h fun g1 h => ?_
  refine s_makeL (f := fun (_ : Unit) => [.sc (.string (⟨#[]⟩ : ByteArray)), .sc (.int .i64 0), .sc (.int .i64 0), .nils, .sc (.int .i64 0), .sc (.int .i64 0)]) (a := ()) rfl rfl rfl rfl rfl sl22 zc39 rfl rfl rfl rfl g1.1 g1.2 (rowZ_cv rfl (rowZ_cv rfl (rowZ_cv rfl (rowZ_nils (rowZ_cv rfl (rowZ_cv rfl rowZ_nil)))))) rfl rfl ?_
  refine s_mv (.inr rfl) (by conv => lhs; whnf) rfl rfl rfl ?_
  refine rt_nil ?_
  refine tri_seq ?_
  refine tri_seq ?_
  refine tri_region ?_
  refine s_mv (.inr rfl) (v := .sc (.int .i64 0)) rfl rfl rfl rfl ?_
  refine rt_nil ?_
  refine tri_block ?_
  refine tri_lstM 0 rfl (fun hl0 => ?_)
  refine tri_loop (ι := { p : (List MEntry) × (List MEntry) × Nat // p0.drop p.2.2 = p.1 ∧ w_toEntryS_l0 p.1 p.2.1 p.2.2 = some r0 }) (fun p => invR_w_toEntryS_0 p0 p.1.2.1 p.1.2.2) (fun p => p.1.1.length) ⟨(p0, List.replicate (p0.length : Int).toNat (MEntry.mk (Quest.mk (⟨#[]⟩ : ByteArray) 0) 0 ([] : List Rec) 0 0), 0), rfl, h⟩ ?_ ?_
  · skip
    refine nest_zero (x0 := MEntry.mk (Quest.mk (⟨#[]⟩ : ByteArray) 0) 0 ([] : List Rec) 0 0) rfl rfl mEntryN_z (fun h => (.cons (.free rfl) (.cons (.free rfl) (.cons (.free rfl) (.cons (.nilRef h) (.cons (.free rfl) (.cons (.free rfl) .nil))))))) rfl (fun _ => rfl) (fun _ => rfl) ?_
    exact ⟨(.free rfl), (cvRefLen rfl (by simp only [List.length_replicate])), (.free rfl), trivial⟩
  · rintro ⟨⟨lrs0, v0_0, v0_1⟩, hd0, h⟩
    replace hd0 : p0.drop v0_1 = lrs0 := hd0
    replace h : w_toEntryS_l0 lrs0 v0_0 v0_1 = some r0 := h
    show Tri _ _ _ (invR_w_toEntryS_0 p0 v0_0 v0_1)
    refine tri_seq ?_
    refine tri_seq ?_
    refine tri_region ?_
    refine s_mv (.inl rfl) (by conv => lhs; whnf) rfl rfl rfl ?_
    refine s_mv (.inl rfl) (by conv => lhs; whnf) rfl rfl rfl ?_
    refine s_lenL rfl sl29 rfl rfl rfl rfl ?_
    refine s_of (st_lss rfl rfl rfl) rfl rfl rfl rfl ?_
    refine rt_nil ?_
    refine tri_cond rfl (fun c2 => ?_) (fun c2 => ?_)
    · refine drop_elim hd0 c2 fun e0 rs0 he hx0 hn0 => ?_
      subst he
      rw [w_toEntryS_l0] at h
      refine tri_skip ?_
      refine tri_seq ?_
      refine tri_block ?_
      refine tri_region ?_
      refine s_mv (.inl rfl) (by conv => lhs; whnf) rfl rfl rfl ?_
      refine s_mv (.inl rfl) (by conv => lhs; whnf) rfl rfl rfl ?_
      refine s_mv (.inl rfl) (by conv => lhs; whnf) rfl rfl rfl ?_
      refine s_mv (.inl rfl) (by conv => lhs; whnf) rfl rfl rfl ?_
      refine s_indexF (i := v0_1) rfl rfl rfl sl29 (get_ltM hx0) rfl rfl rfl ?_
      refine s_loadFR rfl rfl (rowG hx0) ty67 rfl rfl rfl ?_
      refine bnd1_elim h fun x3 q4 h => ?_
      refine s_callN (kb := []) (ns := []) (v := .agg [.sc (.string x3.q.name), .sc (.int .i64 x3.q.ty), .sc (.int .i64 x3.kind), .ref (20, 3) 0 x3.l.length, .sc (.int .i64 x3.rank), .sc (.int .i64 x3.til)]) rfl rfl cl42 (ww_toEntry e0 x3 q4) rfl (.cons (relAgg rfl) .nil) trivial memNil .nil memNil rfl ⟨(allSc_map recV_sc), trivial⟩ memNil (hab1 (lkNo rfl (famNo rfl rfl))) (by first | (simp only [V.mat, V.mat1, V.mat0, matL, matT, List.length_map]; done) | (simp only [V.mat, V.mat1, V.mat0, matL, matT, List.length_map]; rfl)) rfl rfl rfl rfl ?_
      refine bnd1_elim h fun x5 q6 h => ?_
      have q6a := (idx_some q6).1; have q6b := (idx_some q6).2
      refine s_indexZ rfl rfl rfl rfl sl22 rfl q6a (get_lt q6b) rfl rfl rfl ?_
      refine s_store (rows' := (nr 3000 mEntryN 0 v0_0).set (v0_1 : Int).toNat [.sc (.string x3.q.name), .sc (.int .i64 x3.q.ty), .sc (.int .i64 x3.kind), .ref (20, 3) 0 x3.l.length, .sc (.int .i64 x3.rank), .sc (.int .i64 x3.til)]) rfl rfl rfl (nr_get q6b) ty39 rfl rfl rfl rfl rfl rfl ?_
      refine rt_nil ?_
      refine tri_region ?_
      refine s_mv (.inl rfl) (by conv => lhs; whnf) rfl rfl rfl ?_
      refine s_inc (a := v0_1) (b := 1) rfl rfl rfl rfl (by have := get_lt hx0; have := hl0; omega) rfl rfl rfl ?_
      refine s_mv (.inr rfl) (by conv => lhs; whnf) rfl rfl rfl ?_
      refine rt_nil ?_
      refine Exists.intro ⟨(rs0, v0_0.set ((v0_1 : Int).toNat) x3, (v0_1 + 1)), hn0, h⟩ (And.intro (Nat.lt_succ_self _) ?_)
      refine nest_set (c := (20, 3)) rfl rfl rfl (fun j y hy => lkTo rfl (lkTo rfl (lkTo rfl (fam_lk (by rw [List.getElem?_map, hy]; rfl))))) mEntryN_z (fun x h => mEntryN_cv x h) mEntryG_f mEntryG_z (fun _ => rfl) rfl rfl (fun j => lkNo rfl (lkNo rfl (lkNo rfl (famNo rfl rfl)))) ?_
      exact ⟨(.free rfl), (cvRefLen rfl (by simp only [List.length_set])), (.free rfl), trivial⟩
    · have he := drop_f hd0 c2; subst he
      rw [w_toEntryS_l0] at h
      refine tri_exit ?_
      refine tri_seq ?_
      refine tri_region ?_
      refine s_mv (.inl rfl) (by conv => lhs; whnf) rfl rfl rfl ?_
      refine s_mv (.inr rfl) (by conv => lhs; whnf) rfl rfl rfl ?_
      refine rt_nil ?_
      refine tri_ret ?_
      have e0 := (some1 h); subst e0
      exact nest_endS rfl (fun j y hy => lkTo rfl (fam_lk (by rw [List.getElem?_map, hy]; rfl))) mEntryN_z (fun x h => mEntryN_cv x h) mEntryG_f mEntryG_z (fun _ => rfl) (fun j => lkNo rfl (famNo rfl rfl)) (rvC (resTmp rfl) rvN)

/- laws.toCache -/

set_option maxRecDepth 4000 in
set_option maxHeartbeats 800000 in
theorem ww_toCache (p0 : MCache) (r0 : MCache) (h : w_toCache p0 = some r0) : Runs Try.prog 14 [.agg (mCacheV p0)] [] (.agg [.sc (.int .i64 r0.cap), .own 39 6 (List.map mEntryV r0.l)]) [] := by
  unfold w_toCache at h
  refine runsR [.cell 2 24] Try.func14 rfl rfl rfl rfl ?_
  rw [Try.ntmps14]
  refine tri_seq ?_
  refine tri_region ?_
  refine s_box rfl rfl rfl rfl rfl rfl rfl ?_
  refine s_alloc rfl rfl rfl zc24 rfl rfl rfl rfl rfl ?_
  refine rt_nil ?_
  refine tri_seq ?_
  refine tri_region ?_
  refine s_alloc rfl rfl rfl zc24 rfl rfl rfl rfl rfl ?_
  refine rt_nil ?_
  refine tri_seq ?_
  refine tri_region ?_
  refine s_fieldAddr rfl rfl fd31_0 rfl rfl rfl rfl ?_
  refine s_load rfl rfl rfl rfl ty3 rfl (.inr rfl) (by conv => lhs; whnf) rfl rfl rfl ?_
  refine s_fieldAddr rfl rfl fd24_0 rfl rfl rfl rfl ?_
  refine s_store (rows' := [[.sc (.int .i64 p0.cap), .nils]]) rfl rfl rfl rfl ty3 rfl rfl rfl rfl rfl rfl ?_
  refine rt_nil ?_
  refine tri_seq ?_
  refine tri_region ?_
  refine s_fieldAddr rfl rfl fd31_1 rfl rfl rfl rfl ?_
  refine s_load rfl rfl rfl rfl ty29 rfl (.inr rfl) (by conv => lhs; whnf) rfl rfl rfl ?_
  refine bnd1_elim h fun x1 q2 h => ?_
  refine s_callZ (kb := []) (ns := []) (v := .ref (9, 0) 0 x1.length) rfl rfl cl30 (ww_toEntryS p0.l x1 q2) rfl (.cons (.free rfl) .nil) trivial memNil .nil memNil trivial rfl ⟨(allFree_map mEntryV_free), trivial⟩ memNil rfl (by first | (simp only [V.mat, V.mat1, V.mat0, matL, matT, List.length_map]; done) | (simp only [V.mat, V.mat1, V.mat0, matL, matT, List.length_map]; rfl)) rfl rfl rfl rfl ?_
  refine s_fieldAddr rfl rfl fd24_1 rfl rfl rfl rfl ?_
  refine s_store (rows' := [[.sc (.int .i64 p0.cap), .ref (9, 0) 0 x1.length]]) rfl rfl rfl rfl ty22 rfl rfl rfl rfl rfl rfl ?_
  refine rt_nil ?_
  refine tri_seq ?_
  refine tri_region ?_
  refine s_loadR rfl rfl rfl rfl ty24 rfl rfl rfl ?_
  refine s_storeB rfl rfl rfl ty24 rfl rfl rfl rfl rfl ?_
  refine rt_nil ?_
  refine tri_ret ?_
  have e0 := (some1 h); subst e0
  exact endY (v' := .agg [.sc (.int .i64 p0.cap), .ref (2000, 1) 0 x1.length]) [((2000, 1), ⟨39, 6, List.map mEntryV x1, false, true⟩, some (9, 0))] [] (rvC (resCell rfl rfl ty24) rvN) ⟨⟨rfl, _, rfl, rfl, rfl, rfl, id, rowsCv_eq rfl (allFree_map mEntryV_free), rowsZ_map mEntryV_len⟩, trivial⟩ trivial rfl rfl (by kernel_rfl) (by first | (simp only [V.mat, V.mat1, V.mat0, matL, matT, List.length_map]; done) | (simp only [V.mat, V.mat1, V.mat0, matL, matT, List.length_map]; rfl)) (CvL.agg (.cons (.free rfl) (.cons (.ref rfl) .nil)))
set_option maxRecDepth 4000 in
set_option maxHeartbeats 800000 in
theorem wRw_toCache (p0 : MCache) (r0 : MCache) (h : w_toCache p0 = some r0) : RunsG Try.prog 14 [.agg (mCacheV p0)] [] (.agg [.sc (.int .i64 r0.cap), .ref (2000, 1) 0 r0.l.length]) ([(1, ⟨39, 6, nr 2000 mEntryN 10000 r0.l, false, true⟩)] ++ famO 10000 (List.map mEntryG r0.l)) [] := by
  unfold w_toCache at h
  refine runsG [.cell 2 24] Try.func14 rfl rfl rfl rfl ?_
  rw [Try.ntmps14]
  refine tri_seq ?_
  refine tri_region ?_
  refine s_box rfl rfl rfl rfl rfl rfl rfl ?_
  refine s_alloc rfl rfl rfl zc24 rfl rfl rfl rfl rfl ?_
  refine rt_nil ?_
  refine tri_seq ?_
  refine tri_region ?_
  refine s_alloc rfl rfl rfl zc24 rfl rfl rfl rfl rfl ?_
  refine rt_nil ?_
  refine tri_seq ?_
  refine tri_region ?_
  refine s_fieldAddr rfl rfl fd31_0 rfl rfl rfl rfl ?_
  refine s_load rfl rfl rfl rfl ty3 rfl (.inr rfl) (by conv => lhs; whnf) rfl rfl rfl ?_
  refine s_fieldAddr rfl rfl fd24_0 rfl rfl rfl rfl ?_
  refine s_store (rows' := [[.sc (.int .i64 p0.cap), .nils]]) rfl rfl rfl rfl ty3 rfl rfl rfl rfl rfl rfl ?_
  refine rt_nil ?_
  refine tri_seq ?_
  refine tri_region ?_
  refine s_fieldAddr rfl rfl fd31_1 rfl rfl rfl rfl ?_
  refine s_load rfl rfl rfl rfl ty29 rfl (.inr rfl) (by conv => lhs; whnf) rfl rfl rfl ?_
  refine bnd1_elim h fun x1 q2 h => ?_
  refine s_callRt (kb := []) (os' := [(0, ⟨39, 6, nr 9 mEntryN 10000 x1, false, true⟩)]) (y := .ref (9, 0) 0 x1.length) rfl rfl cl30 (wRw_toEntryS p0.l x1 q2) rfl (.cons (.free rfl) .nil) (.cons (outRows mEntryN_z (fun i x hx => (.cons retSc (.cons retSc (.cons retSc (.cons (.own (owns_at (by rw [List.length_map]; exact (List.getElem?_eq_some_iff.1 hx).1))) (.cons retSc (.cons retSc .nil)))))))) id .nil) (fun x => allSc_map recV_sc) mEntryG_z (.own rfl) (fun q E h => by cases List.mem_singleton.1 h; repeat (first | exact rfl | exact famNo rfl rfl | refine lkNo rfl ?_)) (fun i => by repeat (first | exact rfl | exact famNo rfl rfl | refine lkNo rfl ?_)) rfl rfl rfl ?_
  refine s_fieldAddr rfl rfl fd24_1 rfl rfl rfl rfl ?_
  refine s_store (rows' := [[.sc (.int .i64 p0.cap), .ref (9, 0) 0 x1.length]]) rfl rfl rfl rfl ty22 rfl rfl rfl rfl rfl rfl ?_
  refine rt_nil ?_
  refine tri_seq ?_
  refine tri_region ?_
  refine s_loadR rfl rfl rfl rfl ty24 rfl rfl rfl ?_
  refine s_storeB rfl rfl rfl ty24 rfl rfl rfl rfl rfl ?_
  refine rt_nil ?_
  refine tri_ret ?_
  have e0 := (some1 h); subst e0
  exact nest_end (a := 9) (b := 10000) (l := x1) (g := mEntryG) [((2000, 1), ⟨39, 6, nr 2000 mEntryN 10000 x1, false, true⟩, some (9, 0))] [(1, ⟨39, 6, nr 2000 mEntryN 10000 x1, false, true⟩)] (rvC (resCell rfl rfl ty24) rvN) ⟨⟨rfl, _, rfl, rfl, rfl, rfl, id, rowsCv_fam (fun x h => mEntryN_cv x h), nr_rowsZ mEntryN_z⟩, trivial⟩ rfl rfl (fun _ => rfl) rfl (fun j y hy => by repeat (first | exact fam_lk (by rw [List.getElem?_map, hy]; rfl) | refine lkTo rfl ?_)) mEntryG_f mEntryG_z (fun j => by repeat (first | exact rfl | exact famNo rfl rfl | refine lkNo rfl ?_)) rfl (CvL.agg (.cons (.free rfl) (.cons (.ref rfl) .nil)))

/- spec.l15Lives -/

set_option maxRecDepth 4000 in
set_option maxHeartbeats 800000 in
theorem ws_l15Lives (p0 : MEntry) (p1 : Int) (r0 : Bool) (h : s_l15Lives p0 p1 = some r0) : Runs Try.prog 27 [.agg (mEntryV p0), .sc (.int .i64 p1)] [] (.sc (.bool r0)) [] := by
  unfold s_l15Lives at h
  refine runsR [.tmp 4] Try.func27 rfl rfl rfl rfl ?_
  rw [Try.ntmps27]
  refine tri_seq ?_
  refine tri_region ?_
  refine s_box rfl rfl rfl rfl rfl rfl rfl ?_
  refine s_mv (.inr rfl) (v := .sc (.bool false)) rfl rfl rfl rfl ?_
  refine rt_nil ?_
  refine tri_seq ?_
  refine tri_region ?_
  refine s_mv (.inl rfl) (by conv => lhs; whnf) rfl rfl rfl ?_
  refine s_fieldAddr rfl rfl fd39_4 rfl rfl rfl rfl ?_
  refine s_load rfl rfl rfl rfl ty3 rfl (.inr rfl) (by conv => lhs; whnf) rfl rfl rfl ?_
  refine s_of (st_lss rfl rfl rfl) rfl rfl rfl rfl ?_
  refine s_mv (.inr rfl) (by conv => lhs; whnf) rfl rfl rfl ?_
  refine rt_nil ?_
  refine tri_ret ?_
  have e0 := (some1 h); subst e0
  exact endY [] [] (rvC (resTmp rfl) rvN) trivial trivial rfl rfl rfl rfl (.free rfl)

/- spec.l7Copy -/

set_option maxRecDepth 4000 in
set_option maxHeartbeats 800000 in
theorem ws_l7Copy (p0 : List Rec) (r0 : List Rec) (h : s_l7Copy p0 = some r0) : Runs Try.prog 41 [.lst 6 (List.map recV p0)] [] (.own 70 6 (List.map recV r0)) [] := by
  unfold s_l7Copy at h
  refine runsR [.tmp 2] Try.func41 rfl rfl rfl rfl ?_
  rw [Try.ntmps41]
  refine tri_seq ?_
  refine tri_region ?_
  refine s_mv (.inr rfl) (v := .nils) rfl rfl rfl rfl ?_
  refine rt_nil ?_
  refine tri_seq ?_
  refine tri_region ?_
  refine s_buildSlice (rows' := List.map recV ([] : List Rec)) rfl rfl rfl sl37 zc70 rfl rfl rfl rfl rfl rfl rfl rfl rfl ?_
  refine s_mv (.inl rfl) (by conv => lhs; whnf) rfl rfl rfl ?_
  refine grd_elim h fun g1 h => ?_
  refine s_appL rfl rfl rfl sl37 zc70 rfl rfl rfl rfl rfl rfl src_lst g1 rfl rfl ?_
  refine s_mv (.inr rfl) (by conv => lhs; whnf) rfl rfl rfl ?_
  refine rt_nil ?_
  refine tri_ret ?_
  have e0 := (some1 h); subst e0
  exact endY (v' := .ref (2000, 0) 0 ((([] : List Rec) ++ p0).length)) [((2000, 0), ⟨70, 6, List.map recV (([] : List Rec) ++ p0), false, true⟩, some (5, 0))] [] (rvC (resTmp rfl) rvN) ⟨⟨rfl, _, rfl, rfl, rfl, rfl, id, rowsCv_eq rfl (allFree_map recV_free), rowsZ_map recV_len⟩, trivial⟩ trivial rfl rfl (by kernel_rfl) (by first | (simp only [V.mat, V.mat1, V.mat0, matL, matT, List.length_map]; done) | (simp only [V.mat, V.mat1, V.mat0, matL, matT, List.length_map]; rfl)) (.ref rfl)

/- spec.l15Entry -/

set_option maxRecDepth 4000 in
set_option maxHeartbeats 800000 in
theorem ws_l15Entry (p0 : MEntry) (r0 : MEntry) (h : s_l15Entry p0 = some r0) : Runs Try.prog 28 [.agg (mEntryV p0)] [] (.agg [.sc (.string r0.q.name), .sc (.int .i64 r0.q.ty), .sc (.int .i64 r0.kind), .own 70 6 (List.map recV r0.l), .sc (.int .i64 r0.rank), .sc (.int .i64 r0.til)]) [] := by
  unfold s_l15Entry at h
  refine runsR [.cell 2 39] Try.func28 rfl rfl rfl rfl ?_
  rw [Try.ntmps28]
  refine tri_seq ?_
  refine tri_region ?_
  refine s_box rfl rfl rfl rfl rfl rfl rfl ?_
  refine s_alloc rfl rfl rfl zc39 rfl rfl rfl rfl rfl ?_
  refine rt_nil ?_
  refine tri_seq ?_
  refine tri_region ?_
  refine s_fieldAddr rfl rfl fd39_2 rfl rfl rfl rfl ?_
  refine s_load rfl rfl rfl rfl ty37 rfl (.inr rfl) (by conv => lhs; whnf) rfl rfl rfl ?_
  refine bnd1_elim h fun x1 q2 h => ?_
  refine s_callN (kb := []) (ns := []) (v := .ref (5, 0) 0 x1.length) rfl rfl cl41 (ws_l7Copy p0.l x1 q2) rfl (.cons (.free rfl) .nil) trivial memNil .nil memNil rfl ⟨(allSc_map recV_sc), trivial⟩ memNil rfl (by first | (simp only [V.mat, V.mat1, V.mat0, matL, matT, List.length_map]; done) | (simp only [V.mat, V.mat1, V.mat0, matL, matT, List.length_map]; rfl)) rfl rfl rfl rfl ?_
  refine s_fieldAddr rfl rfl fd39_2 rfl rfl rfl rfl ?_
  refine s_store (rows' := [[.sc (.string p0.q.name), .sc (.int .i64 p0.q.ty), .sc (.int .i64 p0.kind), .ref (5, 0) 0 x1.length, .sc (.int .i64 p0.rank), .sc (.int .i64 p0.til)]]) rfl rfl rfl rfl ty37 rfl rfl rfl rfl rfl rfl ?_
  refine rt_nil ?_
  refine tri_seq ?_
  refine tri_region ?_
  refine s_loadR rfl rfl rfl rfl ty39 rfl rfl rfl ?_
  refine s_storeB rfl rfl rfl ty39 rfl rfl rfl rfl rfl ?_
  refine rt_nil ?_
  refine tri_ret ?_
  have e0 := (some1 h); subst e0
  exact endY (v' := .agg [.sc (.string p0.q.name), .sc (.int .i64 p0.q.ty), .sc (.int .i64 p0.kind), .ref (2000, 3) 0 x1.length, .sc (.int .i64 p0.rank), .sc (.int .i64 p0.til)]) [((2000, 3), ⟨70, 6, List.map recV x1, false, true⟩, some (5, 0))] [] (rvC (resCell rfl rfl ty39) rvN) ⟨⟨rfl, _, rfl, rfl, rfl, rfl, id, rowsCv_eq rfl (allFree_map recV_free), rowsZ_map recV_len⟩, trivial⟩ trivial rfl rfl (by kernel_rfl) (by first | (simp only [V.mat, V.mat1, V.mat0, matL, matT, List.length_map]; done) | (simp only [V.mat, V.mat1, V.mat0, matL, matT, List.length_map]; rfl)) (CvL.agg (.cons (.free rfl) (.cons (.free rfl) (.cons (.free rfl) (.cons (.ref rfl) (.cons (.free rfl) (.cons (.free rfl) .nil)))))))

/- spec.Expire -/
def inv_s_Expire_0 (p0 : MCache) (p1 : Int) (v0_0 : List MEntry) (v0_1 : Nat) : St := mkT 39 [(1, .sc (.int .i64 p1)), (2, .ptr (2, 0) 0 0), (4, .ptr (4, 0) 0 0), (5, .ptr (5, 0) 0 0), (6, .sc (.int .i64 (v0_1 : Int)))] [((2, 0), some ⟨24, 2, [[.sc (.int .i64 p0.cap), .lst 6 (List.map mEntryV p0.l)]], false, true⟩), ((4, 0), some ⟨24, 2, [[.sc (.int .i64 0), .nils]], false, true⟩), ((5, 0), some ⟨24, 2, [[.sc (.int .i64 p0.cap), .ref (2005, 2) 0 v0_0.length]], false, true⟩), ((2005, 2), some ⟨39, 6, List.map mEntryV v0_0, false, true⟩)]
set_option maxRecDepth 4000 in
set_option maxHeartbeats 800000 in
theorem ws_Expire (p0 : MCache) (p1 : Int) (r0 : MCache) (h : s_Expire p0 p1 = some r0) : Runs Try.prog 20 [.agg (mCacheV p0), .sc (.int .i64 p1)] [] (.agg [.sc (.int .i64 r0.cap), .own 39 6 (List.map mEntryV r0.l)]) [] := by
  unfold s_Expire at h
  refine runsR [.cell 4 24] Try.func20 rfl rfl rfl rfl ?_
  rw [Try.ntmps20]
  refine tri_seq ?_
  refine tri_region ?_
  refine s_box rfl rfl rfl rfl rfl rfl rfl ?_
  refine s_alloc rfl rfl rfl zc24 rfl rfl rfl rfl rfl ?_
  refine rt_nil ?_
  refine tri_seq ?_
  refine tri_region ?_
  refine s_fieldAddr rfl rfl fd24_0 rfl rfl rfl rfl ?_
  refine s_load rfl rfl rfl rfl ty3 rfl (.inr rfl) (by conv => lhs; whnf) rfl rfl rfl ?_
  refine s_buildSlice (rows' := List.map mEntryV ([] : List MEntry)) rfl rfl rfl sl22 zc39 rfl rfl rfl rfl rfl rfl rfl rfl rfl ?_
  refine s_build (cells' := [.sc (.int .i64 p0.cap), .ref (10, 0) 0 0]) rfl stc24 rfl rfl rfl rfl rfl rfl rfl ?_
  refine s_alloc rfl rfl rfl zc24 rfl rfl rfl rfl rfl ?_
  refine s_storeB rfl rfl rfl ty24 rfl rfl rfl rfl rfl ?_
  refine rt_nil ?_
  refine tri_seq ?_
  refine tri_seq ?_
  refine tri_region ?_
  refine s_mv (.inr rfl) (v := .sc (.int .i64 0)) rfl rfl rfl rfl ?_
  refine rt_nil ?_
  refine tri_block ?_
  refine tri_aggM 0 1 rfl rfl (fun hl0 => ?_)
  refine tri_loop (ι := { p : (List MEntry) × (List MEntry) × Nat // p0.l.drop p.2.2 = p.1 ∧ s_Expire_l0 p0 p1 p.1 p.2.1 p.2.2 = some r0 }) (fun p => inv_s_Expire_0 p0 p1 p.1.2.1 p.1.2.2) (fun p => p.1.1.length) ⟨(p0.l, ([] : List MEntry), 0), rfl, h⟩ ?_ ?_
  · skip
    refine entX [((2, 0), ⟨24, 2, [[.sc (.int .i64 p0.cap), .lst 6 (List.map mEntryV p0.l)]], false, true⟩, some (2, 0)), ((4, 0), ⟨24, 2, [[.sc (.int .i64 0), .nils]], false, true⟩, some (4, 0)), ((5, 0), ⟨24, 2, [[.sc (.int .i64 p0.cap), .ref (2005, 2) 0 ([] : List MEntry).length]], false, true⟩, some (5, 0)), ((2005, 2), ⟨39, 6, List.map mEntryV ([] : List MEntry), false, true⟩, some (10, 0))] [] ⟨⟨rfl, _, rfl, rfl, rfl, rfl, id, rowsCv_one (.cons (.free rfl) (.cons (.free rfl) .nil)), rowsZ_one rfl⟩, ⟨rfl, _, rfl, rfl, rfl, rfl, id, rowsCv_one (.cons (.free rfl) (.cons (.free rfl) .nil)), rowsZ_one rfl⟩, ⟨rfl, _, rfl, rfl, rfl, rfl, id, rowsCv_one (.cons (.free rfl) (.cons (.ref rfl) .nil)), rowsZ_one rfl⟩, ⟨rfl, _, rfl, rfl, rfl, rfl, id, rowsCv_eq rfl (allFree_map mEntryV_free), rowsZ_map mEntryV_len⟩, trivial⟩ trivial rfl rfl ?_
    exact ⟨(.free rfl), (.ptr rfl), (.ptr rfl), (.ptr rfl), (.free rfl), trivial⟩
  · rintro ⟨⟨lrs0, v0_0, v0_1⟩, hd0, h⟩
    replace hd0 : p0.l.drop v0_1 = lrs0 := hd0
    replace h : s_Expire_l0 p0 p1 lrs0 v0_0 v0_1 = some r0 := h
    show Tri _ _ _ (inv_s_Expire_0 p0 p1 v0_0 v0_1)
    refine tri_seq ?_
    refine tri_seq ?_
    refine tri_region ?_
    refine s_mv (.inl rfl) (by conv => lhs; whnf) rfl rfl rfl ?_
    refine s_fieldAddr rfl rfl fd24_1 rfl rfl rfl rfl ?_
    refine s_load rfl rfl rfl rfl ty22 rfl (.inr rfl) (by conv => lhs; whnf) rfl rfl rfl ?_
    refine s_lenL rfl sl22 rfl rfl rfl rfl ?_
    refine s_of (st_lss rfl rfl rfl) rfl rfl rfl rfl ?_
    refine rt_nil ?_
    refine tri_cond rfl (fun c1 => ?_) (fun c1 => ?_)
    · refine drop_elim hd0 c1 fun e0 rs0 he hx0 hn0 => ?_
      subst he
      rw [s_Expire_l0] at h
      refine tri_skip ?_
      refine tri_seq ?_
      refine tri_block ?_
      refine tri_seq ?_
      refine tri_region ?_
      refine s_fieldAddr rfl rfl fd24_1 rfl rfl rfl rfl ?_
      refine s_load rfl rfl rfl rfl ty22 rfl (.inr rfl) (by conv => lhs; whnf) rfl rfl rfl ?_
      refine s_mv (.inl rfl) (by conv => lhs; whnf) rfl rfl rfl ?_
      refine s_indexF (i := v0_1) rfl rfl rfl sl22 (get_ltM hx0) rfl rfl rfl ?_
      refine s_loadFR rfl rfl (rowG hx0) ty39 rfl rfl rfl ?_
      refine s_mv (.inl rfl) (by conv => lhs; whnf) rfl rfl rfl ?_
      refine bnd1_elim h fun x2 q3 h => ?_
      refine s_callN (kb := []) (ns := []) (v := .sc (.bool x2)) rfl rfl cl27 (ws_l15Lives e0 p1 x2 q3) rfl (.cons (relAgg rfl) (.cons (.free rfl) .nil)) trivial memNil .nil memNil rfl trivial memNil rfl rfl rfl rfl rfl rfl ?_
      refine rt_nil ?_
      refine tri_cond rfl (fun c4 => ?_) (fun c4 => ?_)
      · replace h := cond_t h c4
        refine tri_seq ?_
        refine tri_region ?_
        refine s_fieldAddr rfl rfl fd24_1 rfl rfl rfl rfl ?_
        refine s_load rfl rfl rfl rfl ty22 rfl (.inr rfl) (by conv => lhs; whnf) rfl rfl rfl ?_
        refine s_mv (.inl rfl) (by conv => lhs; whnf) rfl rfl rfl ?_
        refine s_indexF (i := v0_1) rfl rfl rfl sl22 (get_ltM hx0) rfl rfl rfl ?_
        refine s_loadFR rfl rfl (rowG hx0) ty39 rfl rfl rfl ?_
        refine bnd1_elim h fun x5 q6 h => ?_
        refine s_callNF (kb := []) (ns := []) (v := .agg [.sc (.string x5.q.name), .sc (.int .i64 x5.q.ty), .sc (.int .i64 x5.kind), .ref (31, 3) 0 x5.l.length, .sc (.int .i64 x5.rank), .sc (.int .i64 x5.til)]) (D := [(31, 3)]) rfl rfl cl28 (ws_l15Entry e0 x5 q6) rfl (.cons (relAgg rfl) .nil) trivial memNil .nil memNil rfl ⟨(allSc_map recV_sc), trivial⟩ memNil rfl (by first | (simp only [V.mat, V.mat1, V.mat0, matL, matT, List.length_map]; done) | (simp only [V.mat, V.mat1, V.mat0, matL, matT, List.length_map]; rfl)) rfl ⟨⟨rfl, rfl, _, rfl, rfl⟩, trivial⟩ (relAggL (.cons (.free rfl) (.cons (.free rfl) (.cons (.free rfl) (.cons (lendL rfl (.head _) rfl recV_free recV_len) (.cons (.free rfl) (.cons (.free rfl) .nil))))))) rfl rfl rfl ?_
        refine s_alloc rfl rfl rfl zc39 rfl rfl rfl rfl rfl ?_
        refine s_storeB rfl rfl rfl ty39 rfl rfl rfl rfl rfl ?_
        refine rt_nil ?_
        refine tri_region ?_
        refine s_fieldAddr rfl rfl fd24_1 rfl rfl rfl rfl ?_
        refine s_load rfl rfl rfl rfl ty22 rfl (.inr rfl) (by conv => lhs; whnf) rfl rfl rfl ?_
        refine s_loadR rfl rfl rfl rfl ty39 rfl rfl rfl ?_
        refine s_buildSlice (rows' := List.map mEntryV [x5]) rfl rfl rfl sl22 zc39 rfl rfl rfl rfl rfl rfl rfl rfl rfl ?_
        refine grd_elim h fun g7 h => ?_
        refine s_appL rfl rfl rfl sl22 zc39 rfl rfl rfl rfl rfl rfl (src_refL rfl rfl) g7 rfl rfl ?_
        refine s_fieldAddr rfl rfl fd24_1 rfl rfl rfl rfl ?_
        refine s_store (rows' := [[.sc (.int .i64 p0.cap), .ref (36, 0) 0 ((v0_0 ++ [x5]).length)]]) rfl rfl rfl rfl ty22 rfl rfl rfl rfl rfl rfl ?_
        refine rt_nil ?_
        refine tri_region ?_
        refine s_mv (.inl rfl) (by conv => lhs; whnf) rfl rfl rfl ?_
        refine s_inc (a := v0_1) (b := 1) rfl rfl rfl rfl (by have := get_lt hx0; have := hl0; omega) rfl rfl rfl ?_
        refine s_mv (.inr rfl) (by conv => lhs; whnf) rfl rfl rfl ?_
        refine rt_nil ?_
        refine Exists.intro ⟨(rs0, v0_0 ++ [x5], (v0_1 + 1)), hn0, h⟩ (And.intro (Nat.lt_succ_self _) ?_)
        refine entX [((2, 0), ⟨24, 2, [[.sc (.int .i64 p0.cap), .lst 6 (List.map mEntryV p0.l)]], false, true⟩, some (2, 0)), ((4, 0), ⟨24, 2, [[.sc (.int .i64 0), .nils]], false, true⟩, some (4, 0)), ((5, 0), ⟨24, 2, [[.sc (.int .i64 p0.cap), .ref (2005, 2) 0 (v0_0 ++ [x5]).length]], false, true⟩, some (5, 0)), ((2005, 2), ⟨39, 6, List.map mEntryV (v0_0 ++ [x5]), false, true⟩, some (36, 0))] [] ⟨⟨rfl, _, rfl, rfl, rfl, rfl, id, rowsCv_one (.cons (.free rfl) (.cons (.free rfl) .nil)), rowsZ_one rfl⟩, ⟨rfl, _, rfl, rfl, rfl, rfl, id, rowsCv_one (.cons (.free rfl) (.cons (.free rfl) .nil)), rowsZ_one rfl⟩, ⟨rfl, _, rfl, rfl, rfl, rfl, id, rowsCv_one (.cons (.free rfl) (.cons (.ref rfl) .nil)), rowsZ_one rfl⟩, ⟨rfl, _, rfl, rfl, rfl, rfl, id, rowsCv_eq rfl (allFree_map mEntryV_free), rowsZ_map mEntryV_len⟩, trivial⟩ trivial rfl rfl ?_
        exact ⟨(.free rfl), (.ptr rfl), (.ptr rfl), (.ptr rfl), (.free rfl), trivial⟩
      · replace h := cond_f h c4
        refine tri_skip ?_
        refine tri_region ?_
        refine s_mv (.inl rfl) (by conv => lhs; whnf) rfl rfl rfl ?_
        refine s_inc (a := v0_1) (b := 1) rfl rfl rfl rfl (by have := get_lt hx0; have := hl0; omega) rfl rfl rfl ?_
        refine s_mv (.inr rfl) (by conv => lhs; whnf) rfl rfl rfl ?_
        refine rt_nil ?_
        refine Exists.intro ⟨(rs0, v0_0, (v0_1 + 1)), hn0, h⟩ (And.intro (Nat.lt_succ_self _) ?_)
        refine entX [((2, 0), ⟨24, 2, [[.sc (.int .i64 p0.cap), .lst 6 (List.map mEntryV p0.l)]], false, true⟩, some (2, 0)), ((4, 0), ⟨24, 2, [[.sc (.int .i64 0), .nils]], false, true⟩, some (4, 0)), ((5, 0), ⟨24, 2, [[.sc (.int .i64 p0.cap), .ref (2005, 2) 0 v0_0.length]], false, true⟩, some (5, 0)), ((2005, 2), ⟨39, 6, List.map mEntryV v0_0, false, true⟩, some (2005, 2))] [] ⟨⟨rfl, _, rfl, rfl, rfl, rfl, id, rowsCv_one (.cons (.free rfl) (.cons (.free rfl) .nil)), rowsZ_one rfl⟩, ⟨rfl, _, rfl, rfl, rfl, rfl, id, rowsCv_one (.cons (.free rfl) (.cons (.free rfl) .nil)), rowsZ_one rfl⟩, ⟨rfl, _, rfl, rfl, rfl, rfl, id, rowsCv_one (.cons (.free rfl) (.cons (.ref rfl) .nil)), rowsZ_one rfl⟩, ⟨rfl, _, rfl, rfl, rfl, rfl, id, rowsCv_eq rfl (allFree_map mEntryV_free), rowsZ_map mEntryV_len⟩, trivial⟩ trivial rfl rfl ?_
        exact ⟨(.free rfl), (.ptr rfl), (.ptr rfl), (.ptr rfl), (.free rfl), trivial⟩
    · have he := drop_f hd0 c1; subst he
      rw [s_Expire_l0] at h
      refine tri_exit ?_
      refine tri_seq ?_
      refine tri_region ?_
      refine s_loadR rfl rfl rfl rfl ty24 rfl rfl rfl ?_
      refine s_storeB rfl rfl rfl ty24 rfl rfl rfl rfl rfl ?_
      refine rt_nil ?_
      refine tri_ret ?_
      have e0 := (some1 h); subst e0
      exact endY (v' := .agg [.sc (.int .i64 p0.cap), .ref (2000, 1) 0 v0_0.length]) [((2000, 1), ⟨39, 6, List.map mEntryV v0_0, false, true⟩, some (2005, 2))] [] (rvC (resCell rfl rfl ty24) rvN) ⟨⟨rfl, _, rfl, rfl, rfl, rfl, id, rowsCv_eq rfl (allFree_map mEntryV_free), rowsZ_map mEntryV_len⟩, trivial⟩ trivial rfl rfl (by kernel_rfl) (by first | (simp only [V.mat, V.mat1, V.mat0, matL, matT, List.length_map]; done) | (simp only [V.mat, V.mat1, V.mat0, matL, matT, List.length_map]; rfl)) (CvL.agg (.cons (.free rfl) (.cons (.ref rfl) .nil)))

/- impl.Record] -/

set_option maxRecDepth 4000 in
set_option maxHeartbeats 800000 in
theorem wslices_Clone_Record (p0 : List Rec) (r0 : List Rec) (h : slices_Clone_Record p0 = some r0) : Runs Try.prog 43 [.lst 6 (List.map recV p0)] [] (.own 70 6 (List.map recV r0)) [] := by
  unfold slices_Clone_Record at h
  refine runsR [.tmp 2] Try.func43 rfl rfl rfl rfl ?_
  rw [Try.ntmps43]
  refine tri_seq ?_
  refine tri_region ?_
  refine s_mv (.inr rfl) (v := .nils) rfl rfl rfl rfl ?_
  refine rt_nil ?_
  refine tri_seq ?_
  refine tri_seq ?_
  refine tri_isNil rfl (by conv => lhs; whnf) rfl rfl rfl rfl rfl slenL sl37 rfl rfl rfl (fun b1v b1 => ?_)
  refine tri_cond rfl (fun c2 => ?_) (fun c2 => ?_)
  · obtain rfl : p0 = [] := List.eq_nil_of_length_eq_zero (b1 c2)
    refine tri_seq ?_
    refine tri_region ?_
    refine s_mv (.inr rfl) (v := .nils) rfl rfl rfl rfl ?_
    refine rt_nil ?_
    refine tri_ret ?_
    replace h : some ([] : List Rec) = some r0 := by simpa [grd] using h
    have e0 := (some1 h); subst e0
    exact endY (v' := .ref (2000, 0) 0 (([] : List Rec).length)) [((2000, 0), ⟨70, 6, List.map recV ([] : List Rec), false, true⟩, none)] [] (rvC (resTmp rfl) rvN) ⟨rfl, trivial⟩ trivial rfl rfl (by kernel_rfl) (by first | (simp only [V.mat, V.mat1, V.mat0, matL, matT, List.length_map]; done) | (simp only [V.mat, V.mat1, V.mat0, matL, matT, List.length_map]; rfl)) (.nilRef rfl)
  · skip
    refine tri_skip ?_
    refine tri_seq ?_
    refine tri_region ?_
    refine s_buildSlice (rows' := List.map recV ([] : List Rec)) rfl rfl rfl sl37 zc70 rfl rfl rfl rfl rfl rfl rfl rfl rfl ?_
    refine s_mv (.inl rfl) (by conv => lhs; whnf) rfl rfl rfl ?_
    refine grd_elim h fun g3 h => ?_
    refine s_appL rfl rfl rfl sl37 zc70 rfl rfl rfl rfl rfl rfl src_lst g3 rfl rfl ?_
    refine s_mv (.inr rfl) (by conv => lhs; whnf) rfl rfl rfl ?_
    refine rt_nil ?_
    refine tri_ret ?_
    have e0 := (some1 h); subst e0
    exact endY (v' := .ref (2000, 0) 0 ((([] : List Rec) ++ p0).length)) [((2000, 0), ⟨70, 6, List.map recV (([] : List Rec) ++ p0), false, true⟩, some (7, 0))] [] (rvC (resTmp rfl) rvN) ⟨⟨rfl, _, rfl, rfl, rfl, rfl, id, rowsCv_eq rfl (allFree_map recV_free), rowsZ_map recV_len⟩, trivial⟩ trivial rfl rfl (by kernel_rfl) (by first | (simp only [V.mat, V.mat1, V.mat0, matL, matT, List.length_map]; done) | (simp only [V.mat, V.mat1, V.mat0, matL, matT, List.length_map]; rfl)) (.ref rfl)

/- impl.copyEntry -/

set_option maxRecDepth 4000 in
set_option maxHeartbeats 800000 in
theorem wi_copyEntry (p0 : MEntry) (r0 : MEntry) (h : i_copyEntry p0 = some r0) : Runs Try.prog 45 [.agg (mEntryV p0)] [] (.agg [.sc (.string r0.q.name), .sc (.int .i64 r0.q.ty), .sc (.int .i64 r0.kind), .own 70 6 (List.map recV r0.l), .sc (.int .i64 r0.rank), .sc (.int .i64 r0.til)]) [] := by
  unfold i_copyEntry at h
  refine runsR [.cell 2 39] Try.func45 rfl rfl rfl rfl ?_
  rw [Try.ntmps45]
  refine tri_seq ?_
  refine tri_region ?_
  refine s_box rfl rfl rfl rfl rfl rfl rfl ?_
  refine s_alloc rfl rfl rfl zc39 rfl rfl rfl rfl rfl ?_
  refine rt_nil ?_
  refine tri_seq ?_
  refine tri_region ?_
  refine s_fieldAddr rfl rfl fd39_2 rfl rfl rfl rfl ?_
  refine s_load rfl rfl rfl rfl ty37 rfl (.inr rfl) (by conv => lhs; whnf) rfl rfl rfl ?_
  refine bnd1_elim h fun x1 q2 h => ?_
  refine s_callN (kb := []) (ns := []) (v := .ref (5, 0) 0 x1.length) rfl rfl cl43 (wslices_Clone_Record p0.l x1 q2) rfl (.cons (.free rfl) .nil) trivial memNil .nil memNil rfl ⟨(allSc_map recV_sc), trivial⟩ memNil rfl (by first | (simp only [V.mat, V.mat1, V.mat0, matL, matT, List.length_map]; done) | (simp only [V.mat, V.mat1, V.mat0, matL, matT, List.length_map]; rfl)) rfl rfl rfl rfl ?_
  refine s_fieldAddr rfl rfl fd39_2 rfl rfl rfl rfl ?_
  refine s_store (rows' := [[.sc (.string p0.q.name), .sc (.int .i64 p0.q.ty), .sc (.int .i64 p0.kind), .ref (5, 0) 0 x1.length, .sc (.int .i64 p0.rank), .sc (.int .i64 p0.til)]]) rfl rfl rfl rfl ty37 rfl rfl rfl rfl rfl rfl ?_
  refine rt_nil ?_
  refine tri_seq ?_
  refine tri_region ?_
  refine s_loadR rfl rfl rfl rfl ty39 rfl rfl rfl ?_
  refine s_storeB rfl rfl rfl ty39 rfl rfl rfl rfl rfl ?_
  refine rt_nil ?_
  refine tri_ret ?_
  have e0 := (some1 h); subst e0
  exact endY (v' := .agg [.sc (.string p0.q.name), .sc (.int .i64 p0.q.ty), .sc (.int .i64 p0.kind), .ref (2000, 3) 0 x1.length, .sc (.int .i64 p0.rank), .sc (.int .i64 p0.til)]) [((2000, 3), ⟨70, 6, List.map recV x1, false, true⟩, some (5, 0))] [] (rvC (resCell rfl rfl ty39) rvN) ⟨⟨rfl, _, rfl, rfl, rfl, rfl, id, rowsCv_eq rfl (allFree_map recV_free), rowsZ_map recV_len⟩, trivial⟩ trivial rfl rfl (by kernel_rfl) (by first | (simp only [V.mat, V.mat1, V.mat0, matL, matT, List.length_map]; done) | (simp only [V.mat, V.mat1, V.mat0, matL, matT, List.length_map]; rfl)) (CvL.agg (.cons (.free rfl) (.cons (.free rfl) (.cons (.free rfl) (.cons (.ref rfl) (.cons (.free rfl) (.cons (.free rfl) .nil)))))))

/- impl.copyCache -/
def inv_i_copyCache_0 (p0 : MCache) (v0_0 : List MEntry) (v0_1 : Nat) : St := mkT 25 [(2, .ptr (2, 0) 0 0), (3, .ptr (3, 0) 0 0), (10, .lst 6 (List.map mEntryV p0.l)), (11, .sc (.int .i64 (p0.l.length : Int))), (12, .sc (.int .i64 (v0_1 : Int)))] [((2, 0), some ⟨24, 2, [[.sc (.int .i64 0), .nils]], false, true⟩), ((3, 0), some ⟨24, 2, [[.sc (.int .i64 p0.cap), .ref (2003, 2) 0 v0_0.length]], false, true⟩), ((2003, 2), some ⟨39, 6, List.map mEntryV v0_0, false, true⟩)]
set_option maxRecDepth 4000 in
set_option maxHeartbeats 800000 in
theorem wi_copyCache (p0 : MCache) (r0 : MCache) (h : i_copyCache p0 = some r0) : Runs Try.prog 36 [.agg (mCacheV p0)] [] (.agg [.sc (.int .i64 r0.cap), .own 39 6 (List.map mEntryV r0.l)]) [] := by
  unfold i_copyCache at h
  refine runsR [.cell 2 24] Try.func36 rfl rfl rfl rfl ?_
  rw [Try.ntmps36]
  refine tri_seq ?_
  refine tri_region ?_
  refine s_box rfl rfl rfl rfl rfl rfl rfl ?_
  refine s_alloc rfl rfl rfl zc24 rfl rfl rfl rfl rfl ?_
  refine rt_nil ?_
  refine tri_seq ?_
  refine tri_region ?_
  refine s_fieldAddr rfl rfl fd24_0 rfl rfl rfl rfl ?_
  refine s_load rfl rfl rfl rfl ty3 rfl (.inr rfl) (by conv => lhs; whnf) rfl rfl rfl ?_
  refine s_build (cells' := [.sc (.int .i64 p0.cap), .nils]) rfl stc24 rfl rfl rfl rfl rfl rfl rfl ?_
  refine s_alloc rfl rfl rfl zc24 rfl rfl rfl rfl rfl ?_
  refine s_storeB rfl rfl rfl ty24 rfl rfl rfl rfl rfl ?_
  refine rt_nil ?_
  refine tri_seq ?_
  refine tri_seq ?_
  refine tri_region ?_
  refine s_fieldAddr rfl rfl fd24_1 rfl rfl rfl rfl ?_
  refine s_load rfl rfl rfl rfl ty22 rfl (.inr rfl) (by conv => lhs; whnf) rfl rfl rfl ?_
  refine s_lenL rfl sl22 rfl rfl rfl rfl ?_
  refine s_mv (.inl rfl) (v := .sc (.int .i64 0)) rfl rfl rfl rfl ?_
  refine rt_nil ?_
  refine tri_block ?_
  refine tri_aggM 0 1 rfl rfl (fun hl0 => ?_)
  refine tri_loop (ι := { p : (List MEntry) × (List MEntry) × Nat // p0.l.drop p.2.2 = p.1 ∧ i_copyCache_l0 p0 p.1 p.2.1 p.2.2 = some r0 }) (fun p => inv_i_copyCache_0 p0 p.1.2.1 p.1.2.2) (fun p => p.1.1.length) ⟨(p0.l, ([] : List MEntry), 0), rfl, h⟩ ?_ ?_
  · skip
    refine entX [((2, 0), ⟨24, 2, [[.sc (.int .i64 0), .nils]], false, true⟩, some (2, 0)), ((3, 0), ⟨24, 2, [[.sc (.int .i64 p0.cap), .ref (2003, 2) 0 ([] : List MEntry).length]], false, true⟩, some (3, 0)), ((2003, 2), ⟨39, 6, List.map mEntryV ([] : List MEntry), false, true⟩, none)] [] ⟨⟨rfl, _, rfl, rfl, rfl, rfl, id, rowsCv_one (.cons (.free rfl) (.cons (.free rfl) .nil)), rowsZ_one rfl⟩, ⟨rfl, _, rfl, rfl, rfl, rfl, id, rowsCv_one (.cons (.free rfl) (.cons (.nilRef rfl) .nil)), rowsZ_one rfl⟩, rfl, trivial⟩ trivial rfl rfl ?_
    exact ⟨(.ptr rfl), (.ptr rfl), (.free rfl), (.free rfl), (.free rfl), trivial⟩
  · rintro ⟨⟨lrs0, v0_0, v0_1⟩, hd0, h⟩
    replace hd0 : p0.l.drop v0_1 = lrs0 := hd0
    replace h : i_copyCache_l0 p0 lrs0 v0_0 v0_1 = some r0 := h
    show Tri _ _ _ (inv_i_copyCache_0 p0 v0_0 v0_1)
    refine tri_seq ?_
    refine tri_region ?_
    refine s_of (st_lss rfl rfl rfl) rfl rfl rfl rfl ?_
    refine rt_nil ?_
    refine tri_seq ?_
    refine tri_cond rfl (fun c1 => ?_) (fun c1 => ?_)
    · refine drop_elim hd0 c1 fun e0 rs0 he hx0 hn0 => ?_
      subst he
      rw [i_copyCache_l0] at h
      refine tri_skip ?_
      refine tri_seq ?_
      refine tri_block ?_
      refine tri_seq ?_
      refine tri_region ?_
      refine s_indexF (i := v0_1) rfl rfl rfl sl22 (get_ltM hx0) rfl rfl rfl ?_
      refine s_loadFR rfl rfl (rowG hx0) ty39 rfl rfl rfl ?_
      refine s_alloc rfl rfl rfl zc39 rfl rfl rfl rfl rfl ?_
      refine s_storeB rfl rfl rfl ty39 rfl rfl rfl rfl rfl ?_
      refine rt_nil ?_
      refine tri_draw mixed ?_
      refine s_fieldAddr rfl rfl fd24_1 rfl rfl rfl rfl ?_
      refine s_load rfl rfl rfl rfl ty22 rfl (.inr rfl) (by conv => lhs; whnf) rfl rfl rfl ?_
      refine s_loadR rfl rfl rfl rfl ty39 rfl rfl rfl ?_
      refine bnd1_elim h fun x2 q3 h => ?_
      refine s_callNF (kb := []) (ns := []) (v := .agg [.sc (.string x2.q.name), .sc (.int .i64 x2.q.ty), .sc (.int .i64 x2.kind), .ref (19, 3) 0 x2.l.length, .sc (.int .i64 x2.rank), .sc (.int .i64 x2.til)]) (D := [(19, 3)]) rfl rfl cl45 (wi_copyEntry e0 x2 q3) rfl (.cons (relAgg rfl) .nil) trivial memNil .nil memNil rfl ⟨(allSc_map recV_sc), trivial⟩ memNil rfl (by first | (simp only [V.mat, V.mat1, V.mat0, matL, matT, List.length_map]; done) | (simp only [V.mat, V.mat1, V.mat0, matL, matT, List.length_map]; rfl)) rfl ⟨⟨rfl, rfl, _, rfl, rfl⟩, trivial⟩ (relAggL (.cons (.free rfl) (.cons (.free rfl) (.cons (.free rfl) (.cons (lendL rfl (.head _) rfl recV_free recV_len) (.cons (.free rfl) (.cons (.free rfl) .nil))))))) rfl rfl rfl ?_
      refine s_buildSlice (rows' := List.map mEntryV [x2]) rfl rfl rfl sl22 zc39 rfl rfl rfl rfl rfl rfl rfl rfl rfl ?_
      refine grd_elim h fun g4 h => ?_
      refine s_appL rfl rfl rfl sl22 zc39 rfl rfl rfl rfl rfl rfl (src_refL rfl rfl) g4 rfl rfl ?_
      refine s_fieldAddr rfl rfl fd24_1 rfl rfl rfl rfl ?_
      refine s_store (rows' := [[.sc (.int .i64 p0.cap), .ref (21, 0) 0 ((v0_0 ++ [x2]).length)]]) rfl rfl rfl rfl ty22 rfl rfl rfl rfl rfl rfl ?_
      refine rt_nil ⟨by kernel_rfl, ?_⟩
      refine tri_region ?_
      refine s_inc (a := v0_1) (b := 1) rfl rfl rfl rfl (by have := get_lt hx0; have := hl0; omega) rfl rfl rfl ?_
      refine s_mv (.inl rfl) (by conv => lhs; whnf) rfl rfl rfl ?_
      refine rt_nil ?_
      refine Exists.intro ⟨(rs0, v0_0 ++ [x2], (v0_1 + 1)), hn0, h⟩ (And.intro (Nat.lt_succ_self _) ?_)
      refine entX [((2, 0), ⟨24, 2, [[.sc (.int .i64 0), .nils]], false, true⟩, some (2, 0)), ((3, 0), ⟨24, 2, [[.sc (.int .i64 p0.cap), .ref (2003, 2) 0 (v0_0 ++ [x2]).length]], false, true⟩, some (3, 0)), ((2003, 2), ⟨39, 6, List.map mEntryV (v0_0 ++ [x2]), false, true⟩, some (21, 0))] [] ⟨⟨rfl, _, rfl, rfl, rfl, rfl, id, rowsCv_one (.cons (.free rfl) (.cons (.free rfl) .nil)), rowsZ_one rfl⟩, ⟨rfl, _, rfl, rfl, rfl, rfl, id, rowsCv_one (.cons (.free rfl) (.cons (.ref rfl) .nil)), rowsZ_one rfl⟩, ⟨rfl, _, rfl, rfl, rfl, rfl, id, rowsCv_eq rfl (allFree_map mEntryV_free), rowsZ_map mEntryV_len⟩, trivial⟩ trivial rfl rfl ?_
      exact ⟨(.ptr rfl), (.ptr rfl), (.free rfl), (.free rfl), (.free rfl), trivial⟩
    · have he := drop_f hd0 c1; subst he
      rw [i_copyCache_l0] at h
      refine tri_exit ?_
      refine tri_seq ?_
      refine tri_region ?_
      refine s_loadR rfl rfl rfl rfl ty24 rfl rfl rfl ?_
      refine s_storeB rfl rfl rfl ty24 rfl rfl rfl rfl rfl ?_
      refine rt_nil ?_
      refine tri_ret ?_
      have e0 := (some1 h); subst e0
      exact endY (v' := .agg [.sc (.int .i64 p0.cap), .ref (2000, 1) 0 v0_0.length]) [((2000, 1), ⟨39, 6, List.map mEntryV v0_0, false, true⟩, some (2003, 2))] [] (rvC (resCell rfl rfl ty24) rvN) ⟨⟨rfl, _, rfl, rfl, rfl, rfl, id, rowsCv_eq rfl (allFree_map mEntryV_free), rowsZ_map mEntryV_len⟩, trivial⟩ trivial rfl rfl (by kernel_rfl) (by first | (simp only [V.mat, V.mat1, V.mat0, matL, matT, List.length_map]; done) | (simp only [V.mat, V.mat1, V.mat0, matL, matT, List.length_map]; rfl)) (CvL.agg (.cons (.free rfl) (.cons (.ref rfl) .nil)))
def invR_i_copyCache_0 (p0 : MCache) (v0_0 : List MEntry) (v0_1 : Nat) : St := mkT 25 [(2, .ptr (2, 0) 0 0), (3, .ptr (3, 0) 0 0), (10, .lst 6 (List.map mEntryV p0.l)), (11, .sc (.int .i64 (p0.l.length : Int))), (12, .sc (.int .i64 (v0_1 : Int)))] ([((2, 0), some ⟨24, 2, [[.sc (.int .i64 0), .nils]], false, true⟩), ((3, 0), some ⟨24, 2, [[.sc (.int .i64 p0.cap), .ref (2003, 2) 0 v0_0.length]], false, true⟩), ((2003, 2), some ⟨39, 6, nr 3000 mEntryN 0 v0_0, false, true⟩)] ++ (fam 3000 0 (List.map mEntryG v0_0) ++ []))
set_option maxRecDepth 4000 in
set_option maxHeartbeats 800000 in
theorem wRi_copyCache (p0 : MCache) (r0 : MCache) (h : i_copyCache p0 = some r0) : RunsG Try.prog 36 [.agg (mCacheV p0)] [] (.agg [.sc (.int .i64 r0.cap), .ref (2000, 1) 0 r0.l.length]) ([(1, ⟨39, 6, nr 2000 mEntryN 10000 r0.l, false, true⟩)] ++ famO 10000 (List.map mEntryG r0.l)) [] := by
  unfold i_copyCache at h
  refine runsG [.cell 2 24] Try.func36 rfl rfl rfl rfl ?_
  rw [Try.ntmps36]
  refine tri_seq ?_
  refine tri_region ?_
  refine s_box rfl rfl rfl rfl rfl rfl rfl ?_
  refine s_alloc rfl rfl rfl zc24 rfl rfl rfl rfl rfl ?_
  refine rt_nil ?_
  refine tri_seq ?_
  refine tri_region ?_
  refine s_fieldAddr rfl rfl fd24_0 rfl rfl rfl rfl ?_
  refine s_load rfl rfl rfl rfl ty3 rfl (.inr rfl) (by conv => lhs; whnf) rfl rfl rfl ?_
  refine s_build (cells' := [.sc (.int .i64 p0.cap), .nils]) rfl stc24 rfl rfl rfl rfl rfl rfl rfl ?_
  refine s_alloc rfl rfl rfl zc24 rfl rfl rfl rfl rfl ?_
  refine s_storeB rfl rfl rfl ty24 rfl rfl rfl rfl rfl ?_
  refine rt_nil ?_
  refine tri_seq ?_
  refine tri_seq ?_
  refine tri_region ?_
  refine s_fieldAddr rfl rfl fd24_1 rfl rfl rfl rfl ?_
  refine s_load rfl rfl rfl rfl ty22 rfl (.inr rfl) (by conv => lhs; whnf) rfl rfl rfl ?_
  refine s_lenL rfl sl22 rfl rfl rfl rfl ?_
  refine s_mv (.inl rfl) (v := .sc (.int .i64 0)) rfl rfl rfl rfl ?_
  refine rt_nil ?_
  refine tri_block ?_
  refine tri_aggM 0 1 rfl rfl (fun hl0 => ?_)
  refine tri_loop (ι := { p : (List MEntry) × (List MEntry) × Nat // p0.l.drop p.2.2 = p.1 ∧ i_copyCache_l0 p0 p.1 p.2.1 p.2.2 = some r0 }) (fun p => invR_i_copyCache_0 p0 p.1.2.1 p.1.2.2) (fun p => p.1.1.length) ⟨(p0.l, ([] : List MEntry), 0), rfl, h⟩ ?_ ?_
  · skip
    refine entQ (a := 3000) (b := 0) (l := []) (g := mEntryG) (items := [((2, 0), ⟨24, 2, [[.sc (.int .i64 0), .nils]], false, true⟩, some (2, 0)), ((3, 0), ⟨24, 2, [[.sc (.int .i64 p0.cap), .ref (2003, 2) 0 ([] : List MEntry).length]], false, true⟩, some (3, 0)), ((2003, 2), ⟨39, 6, nr 3000 mEntryN 0 ([] : List MEntry), false, true⟩, none)]) (D := []) [] rfl ⟨⟨rfl, _, rfl, rfl, rfl, rfl, id, rowsCv_one (.cons (.free rfl) (.cons (.free rfl) .nil)), rowsZ_one rfl⟩, ⟨rfl, _, rfl, rfl, rfl, rfl, id, rowsCv_one (.cons (.free rfl) (.cons (.nilRef rfl) .nil)), rowsZ_one rfl⟩, rfl, trivial⟩ trivial rfl (fun p hp => by cases hp) .nil mEntryG_f mEntryG_z rfl (fun j => (by repeat (first | exact rfl | exact famNo rfl rfl | refine lkNo rfl ?_))) ?_
    exact ⟨(.ptr rfl), (.ptr rfl), (.free rfl), (.free rfl), (.free rfl), trivial⟩
  · rintro ⟨⟨lrs0, v0_0, v0_1⟩, hd0, h⟩
    replace hd0 : p0.l.drop v0_1 = lrs0 := hd0
    replace h : i_copyCache_l0 p0 lrs0 v0_0 v0_1 = some r0 := h
    show Tri _ _ _ (invR_i_copyCache_0 p0 v0_0 v0_1)
    refine tri_seq ?_
    refine tri_region ?_
    refine s_of (st_lss rfl rfl rfl) rfl rfl rfl rfl ?_
    refine rt_nil ?_
    refine tri_seq ?_
    refine tri_cond rfl (fun c1 => ?_) (fun c1 => ?_)
    · refine drop_elim hd0 c1 fun e0 rs0 he hx0 hn0 => ?_
      subst he
      rw [i_copyCache_l0] at h
      refine tri_skip ?_
      refine tri_seq ?_
      refine tri_block ?_
      refine tri_seq ?_
      refine tri_region ?_
      refine s_indexF (i := v0_1) rfl rfl rfl sl22 (get_ltM hx0) rfl rfl rfl ?_
      refine s_loadFR rfl rfl (rowG hx0) ty39 rfl rfl rfl ?_
      refine s_alloc rfl rfl (by repeat (first | exact rfl | exact famNo rfl rfl | refine lkNo rfl ?_)) zc39 rfl rfl rfl rfl rfl ?_
      refine s_storeB rfl rfl rfl ty39 rfl rfl rfl rfl rfl ?_
      refine rt_nil ?_
      refine tri_draw mixed ?_
      refine s_fieldAddr rfl rfl fd24_1 rfl rfl rfl rfl ?_
      refine s_load rfl rfl rfl rfl ty22 rfl (.inr rfl) (by conv => lhs; whnf) rfl rfl rfl ?_
      refine s_loadR rfl rfl rfl rfl ty39 rfl rfl rfl ?_
      refine bnd1_elim h fun x2 q3 h => ?_
      refine s_callN (kb := []) (ns := []) (v := .agg [.sc (.string x2.q.name), .sc (.int .i64 x2.q.ty), .sc (.int .i64 x2.kind), .ref (19, 3) 0 x2.l.length, .sc (.int .i64 x2.rank), .sc (.int .i64 x2.til)]) rfl rfl cl45 (wi_copyEntry e0 x2 q3) rfl (.cons (relAgg rfl) .nil) trivial memNil .nil memNil rfl ⟨(allSc_map recV_sc), trivial⟩ memNil (habC (by repeat (first | exact rfl | exact famNo rfl rfl | refine lkNo rfl ?_)) habN) (by first | (simp only [V.mat, V.mat1, V.mat0, matL, matT, List.length_map]; done) | (simp only [V.mat, V.mat1, V.mat0, matL, matT, List.length_map]; rfl)) rfl rfl rfl rfl ?_
      refine s_buildSlice (rows' := [mEntryN (19, 3) x2]) rfl rfl (by repeat (first | exact rfl | exact famNo rfl rfl | refine lkNo rfl ?_)) sl22 zc39 rfl rfl rfl rfl rfl rfl rfl rfl rfl ?_
      refine grd_elim h fun g4 h => ?_
      refine s_append (len := (v0_0 ++ [x2]).length) rfl rfl (by repeat (first | exact rfl | exact famNo rfl rfl | refine lkNo rfl ?_)) sl22 zc39 rfl rfl rfl rfl rfl (by rw [nr_len]) (src_ref rfl rfl rfl) (by simp) g4 rfl rfl ?_
      refine s_fieldAddr rfl rfl fd24_1 rfl rfl rfl rfl ?_
      refine s_store (rows' := [[.sc (.int .i64 p0.cap), .ref (21, 0) 0 ((v0_0 ++ [x2]).length)]]) rfl rfl rfl rfl ty22 rfl rfl rfl rfl rfl rfl ?_
      refine rt_nil ⟨by kernel_rfl, ?_⟩
      refine tri_region ?_
      refine s_inc (a := v0_1) (b := 1) rfl rfl rfl rfl (by have := get_lt hx0; have := hl0; omega) rfl rfl rfl ?_
      refine s_mv (.inl rfl) (by conv => lhs; whnf) rfl rfl rfl ?_
      refine rt_nil ?_
      refine Exists.intro ⟨(rs0, v0_0 ++ [x2], (v0_1 + 1)), hn0, h⟩ (And.intro (Nat.lt_succ_self _) ?_)
      refine entQ (a := 3000) (b := 0) (l := (v0_0 ++ [x2])) (g := mEntryG) (items := [((2, 0), ⟨24, 2, [[.sc (.int .i64 0), .nils]], false, true⟩, some (2, 0)), ((3, 0), ⟨24, 2, [[.sc (.int .i64 p0.cap), .ref (2003, 2) 0 (v0_0 ++ [x2]).length]], false, true⟩, some (3, 0)), ((2003, 2), ⟨39, 6, nr 3000 mEntryN 0 (v0_0 ++ [x2]), false, true⟩, some (21, 0))]) (D := []) (nmP 3000 0 v0_0 ++ [((19, 3), x2)]) (by rw [List.map_append, nmP_snd]; rfl) ⟨⟨rfl, _, rfl, rfl, rfl, rfl, id, rowsCv_one (.cons (.free rfl) (.cons (.free rfl) .nil)), rowsZ_one rfl⟩, ⟨rfl, _, rfl, rfl, rfl, rfl, id, rowsCv_one (.cons (.free rfl) (.cons (.ref rfl) .nil)), rowsZ_one rfl⟩, ⟨rfl, _, rfl, rfl, rfl, rfl, id, rowsCv_q (by rw [List.map_append, nmP_snd]; rfl) (by rw [List.map_append, ← nmP_rows]; rfl) (fun x h => mEntryN_cv x h), nr_rowsZ mEntryN_z⟩, trivial⟩ trivial rfl (nmOk_app (fun p hp => nmOk_fam (fun j y hy => (by repeat (first | exact fam_lk (by rw [List.getElem?_map, hy]; rfl) | refine lkTo rfl ?_))) rfl rfl (nmP_mem hp)) (nmOk_one rfl rfl rfl)) (nd_app (by rw [nmP_fst]; exact famN_nodup _ _ _) (fun p hp => nm_ne rfl (nmP_mem hp))) mEntryG_f mEntryG_z rfl (fun j => (by repeat (first | exact rfl | exact famNo rfl rfl | refine lkNo rfl ?_))) ?_
      exact ⟨(.ptr rfl), (.ptr rfl), (.free rfl), (.free rfl), (.free rfl), trivial⟩
    · have he := drop_f hd0 c1; subst he
      rw [i_copyCache_l0] at h
      refine tri_exit ?_
      refine tri_seq ?_
      refine tri_region ?_
      refine s_loadR rfl rfl rfl rfl ty24 rfl rfl rfl ?_
      refine s_storeB rfl rfl rfl ty24 rfl rfl rfl rfl rfl ?_
      refine rt_nil ?_
      refine tri_ret ?_
      have e0 := (some1 h); subst e0
      exact nest_endQ (g := mEntryG) (l := v0_0) [((2000, 1), ⟨39, 6, nr 2000 mEntryN 10000 v0_0, false, true⟩, some (2003, 2))] [(1, ⟨39, 6, nr 2000 mEntryN 10000 v0_0, false, true⟩)] (nmP 3000 0 v0_0) nmP_snd (rvC (resCell rfl rfl ty24) rvN) ⟨⟨rfl, _, rfl, rfl, rfl, rfl, id, rowsCv_q nmP_snd nmP_rows (fun x h => mEntryN_cv x h), nr_rowsZ mEntryN_z⟩, trivial⟩ rfl (fun p hp => nmOk_fam (fun j y hy => (by repeat (first | exact fam_lk (by rw [List.getElem?_map, hy]; rfl) | refine lkTo rfl ?_))) rfl rfl (nmP_mem hp)) (by rw [nmP_fst]; exact famN_nodup _ _ _) (fun _ => rfl) rfl mEntryG_f mEntryG_z (fun j => (by repeat (first | exact rfl | exact famNo rfl rfl | refine lkNo rfl ?_))) rfl (CvL.agg (.cons (.free rfl) (.cons (.ref rfl) .nil)))

/- impl.Entry] -/
def inv_slices_IndexFunc_Entry_0 (p0 : List MEntry) (fi1 : FuncId) (cp1 : List V) (v0_0 : Nat) : St := mkT 19 [(0, .lst 6 (List.map mEntryV p0)), (1, .fn fi1 cp1), (7, .sc (.int .i64 (p0.length : Int))), (8, .sc (.int .i64 (v0_0 : Int)))] []
set_option maxRecDepth 4000 in
set_option maxHeartbeats 800000 in
theorem wslices_IndexFunc_Entry (p0 : List MEntry) (fi1 : FuncId) (cp1 : List V) (hf1 : cp1.all (·.free) = true) (hb1 : callable Try.prog fi1 = true) (p1 : MEntry → Option Bool) (hg1 : ∀ (z0 : MEntry) v, p1 z0 = some v → Runs Try.prog fi1 ([.agg (mEntryV z0)] ++ cp1) [] (.sc (.bool v)) []) (r0 : Int) (h : slices_IndexFunc_Entry p0 p1 = some r0) : Runs Try.prog 46 [.lst 6 (List.map mEntryV p0), .fn fi1 cp1] [] (.sc (.int .i64 r0)) [] := by
  unfold slices_IndexFunc_Entry at h
  refine runsR [.tmp 4] Try.func46 rfl rfl rfl rfl ?_
  rw [Try.ntmps46]
  refine tri_seq ?_
  refine tri_region ?_
  refine s_mv (.inr rfl) (v := .sc (.int .i64 0)) rfl rfl rfl rfl ?_
  refine rt_nil ?_
  refine tri_seq ?_
  refine tri_seq ?_
  refine tri_region ?_
  refine s_mv (.inl rfl) (by conv => lhs; whnf) rfl rfl rfl ?_
  refine s_lenL rfl sl22 rfl rfl rfl rfl ?_
  refine s_mv (.inl rfl) (v := .sc (.int .i64 0)) rfl rfl rfl rfl ?_
  refine rt_nil ?_
  refine tri_block ?_
  refine tri_lstM 0 rfl (fun hl0 => ?_)
  refine tri_loop (ι := { p : (List MEntry) × Nat // p0.drop p.2 = p.1 ∧ slices_IndexFunc_Entry_l0 p1 p.1 p.2 = some r0 }) (fun p => inv_slices_IndexFunc_Entry_0 p0 fi1 cp1 p.1.2) (fun p => p.1.1.length) ⟨(p0, 0), rfl, h⟩ ?_ ?_
  · skip
    refine entX [] [] trivial trivial rfl rfl ?_
    exact ⟨(.free rfl), (cvFn hf1), (.free rfl), (.free rfl), trivial⟩
  · rintro ⟨⟨lrs0, v0_0⟩, hd0, h⟩
    replace hd0 : p0.drop v0_0 = lrs0 := hd0
    replace h : slices_IndexFunc_Entry_l0 p1 lrs0 v0_0 = some r0 := h
    show Tri _ _ _ (inv_slices_IndexFunc_Entry_0 p0 fi1 cp1 v0_0)
    refine tri_seq ?_
    refine tri_region ?_
    refine s_of (st_lss rfl rfl rfl) rfl rfl rfl rfl ?_
    refine rt_nil ?_
    refine tri_seq ?_
    refine tri_cond rfl (fun c1 => ?_) (fun c1 => ?_)
    · refine drop_elim hd0 c1 fun e0 rs0 he hx0 hn0 => ?_
      subst he
      rw [slices_IndexFunc_Entry_l0] at h
      refine tri_skip ?_
      refine tri_seq ?_
      refine tri_block ?_
      refine tri_seq ?_
      refine tri_region ?_
      refine s_mv (.inl rfl) (by conv => lhs; whnf) rfl rfl rfl ?_
      refine s_mv (.inr rfl) (by conv => lhs; whnf) rfl rfl rfl ?_
      refine rt_nil ?_
      refine tri_seq ?_
      refine tri_region ?_
      refine s_mv (.inl rfl) (by conv => lhs; whnf) rfl rfl rfl ?_
      refine s_mv (.inl rfl) (by conv => lhs; whnf) rfl rfl rfl ?_
      refine s_mv (.inl rfl) (by conv => lhs; whnf) rfl rfl rfl ?_
      refine s_indexF (i := v0_0) rfl rfl rfl sl22 (get_ltM hx0) rfl rfl rfl ?_
      refine s_loadFR rfl rfl (rowG hx0) ty39 rfl rfl rfl ?_
      refine bnd1_elim h fun x2 q3 h => ?_
      refine s_callN (kb := []) (ns := []) (v := .sc (.bool x2)) rfl rfl hb1 (hg1 e0 x2 q3) rfl (.cons (relAgg rfl) (argsFree hf1)) trivial memNil .nil memNil rfl trivial memNil rfl rfl rfl rfl rfl rfl ?_
      refine rt_nil ?_
      refine tri_cond rfl (fun c4 => ?_) (fun c4 => ?_)
      · replace h := cond_t h c4
        refine tri_seq ?_
        refine tri_region ?_
        refine s_mv (.inl rfl) (by conv => lhs; whnf) rfl rfl rfl ?_
        refine s_mv (.inr rfl) (by conv => lhs; whnf) rfl rfl rfl ?_
        refine rt_nil ?_
        refine tri_ret ?_
        have e0 := (some1 h); subst e0
        exact endY [] [] (rvC (resTmp rfl) rvN) trivial trivial rfl rfl rfl rfl (.free rfl)
      · replace h := cond_f h c4
        refine tri_skip ?_
        refine tri_region ?_
        refine s_inc (a := v0_0) (b := 1) rfl rfl rfl rfl (by have := get_lt hx0; have := hl0; omega) rfl rfl rfl ?_
        refine s_mv (.inl rfl) (by conv => lhs; whnf) rfl rfl rfl ?_
        refine rt_nil ?_
        refine Exists.intro ⟨(rs0, (v0_0 + 1)), hn0, h⟩ (And.intro (Nat.lt_succ_self _) ?_)
        refine entX [] [] trivial trivial rfl rfl ?_
        exact ⟨(.free rfl), (cvFn hf1), (.free rfl), (.free rfl), trivial⟩
    · have he := drop_f hd0 c1; subst he
      rw [slices_IndexFunc_Entry_l0] at h
      refine tri_exit ?_
      refine tri_seq ?_
      refine tri_region ?_
      refine s_mv (.inr rfl) (v := .sc (.int .i64 (-1))) rfl rfl rfl rfl ?_
      refine rt_nil ?_
      refine tri_ret ?_
      have e0 := (some1 h); subst e0
      exact endY [] [] (rvC (resTmp rfl) rvN) trivial trivial rfl rfl rfl rfl (.free rfl)
def slices_IndexFunc_Entry_I_l0 {n : Nat} (p1 : Fin n → Option Bool) : List (Fin n) → Nat → Option Int
  | [], v0_0 => some (-1)
  | e0 :: rs0, v0_0 => bnd1 (p1 e0) (fun x2 => bif x2 then (some (v0_0 : Int)) else (slices_IndexFunc_Entry_I_l0 p1 rs0 (v0_0 + 1)))
def slices_IndexFunc_Entry_I {n : Nat} (p0 : List (Fin n)) (p1 : Fin n → Option Bool) : Option Int :=
  slices_IndexFunc_Entry_I_l0 p1 p0 0
theorem idxI_map {n : Nat} {φ : Fin n → MEntry} {v : List (Fin n)} {i : Int} : idx (v.map φ) i = (idx v i).map φ := by
  unfold idx
  split
  · rw [List.getElem?_map]
  · rfl
theorem grdI_map {α β : Type} {p : Prop} [Decidable p] {x : Option α} {g : α → β} : (grd p x).map g = grd p (x.map g) := by
  unfold grd
  split <;> rfl
theorem slices_IndexFunc_Entry_I_eq {n : Nat} {φ : Fin n → MEntry} {p1 : MEntry → Option Bool} {q1 : Fin n → Option Bool} (hq : ∀ i, q1 i = p1 (φ i)) : ∀ (is : List (Fin n)) (v : Nat), slices_IndexFunc_Entry_I_l0 q1 is v = slices_IndexFunc_Entry_l0 p1 (is.map φ) v
  | [], _ => rfl
  | i :: is, v => by
    rw [slices_IndexFunc_Entry_I_l0, List.map_cons, slices_IndexFunc_Entry_l0, hq]
    congr 1; funext x
    cases x
    · exact slices_IndexFunc_Entry_I_eq hq is (v + 1)
    · rfl
theorem slices_IndexFunc_Entry_I_of {n : Nat} {φ : Fin n → MEntry} {p1 : MEntry → Option Bool} {q1 : Fin n → Option Bool} (hq : ∀ i, q1 i = p1 (φ i)) {is : List (Fin n)} {x : Int} (h : slices_IndexFunc_Entry_I is q1 = some x) : slices_IndexFunc_Entry (is.map φ) p1 = some x := by
  unfold slices_IndexFunc_Entry_I at h
  unfold slices_IndexFunc_Entry
  rw [← slices_IndexFunc_Entry_I_eq hq]; exact h
theorem finMap_get {l : List MEntry} : (List.finRange l.length).map l.get = l := by
  refine List.ext_getElem (by simp) fun i h1 h2 => ?_
  simp

/- impl.Entry] -/
def inv_slices_DeleteFunc_Entry_1 (fi1 : FuncId) (cp1 : List V) (v1_0 : List MEntry) (v1_1 : Int) (v1_2 : Int) : St := mkT 42 [(0, .ref (1000, 0) 0 v1_0.length), (1, .fn fi1 cp1), (5, .sc (.int .i64 v1_1)), (6, .sc (.int .i64 v1_2))] [((1000, 0), some ⟨39, 6, List.map mEntryV v1_0, false, false⟩)]
def inv_slices_DeleteFunc_Entry_0  (j0_0 : List MEntry) (j0_1 : Int) : St := mkT 42 [(0, .ref (1000, 0) 0 j0_0.length), (5, .sc (.int .i64 j0_1))] [((1000, 0), some ⟨39, 6, List.map mEntryV j0_0, false, false⟩)]
set_option maxRecDepth 4000 in
set_option maxHeartbeats 800000 in
theorem wslices_DeleteFunc_Entry (p0 : List MEntry) (fi1 : FuncId) (cp1 : List V) (hf1 : cp1.all (·.free) = true) (hb1 : callable Try.prog fi1 = true) (p1 : MEntry → Option Bool) (hg1 : ∀ (z0 : MEntry) v, p1 z0 = some v → Runs Try.prog fi1 ([.agg (mEntryV z0)] ++ cp1) [] (.sc (.bool v)) []) (r0 : List MEntry) (r1 : List MEntry) (h : slices_DeleteFunc_Entry p0 p1 = some (r0, r1)) : RunsG Try.prog 37 [.ref (1000, 0) 0 p0.length, .fn fi1 cp1] [⟨39, 6, List.map mEntryV p0, false, false⟩] (.ref (1000, 0) 0 r1.length) [] [⟨39, 6, List.map mEntryV r1, false, false⟩] := by
  unfold slices_DeleteFunc_Entry at h
  refine runsG [.tmp 4] Try.func37 rfl rfl rfl rfl ?_
  rw [Try.ntmps37]
  refine tri_seq ?_
  refine tri_region ?_
  refine s_mv (.inr rfl) (v := .nils) rfl rfl rfl rfl ?_
  refine rt_nil ?_
  refine tri_seq ?_
  refine tri_region ?_
  refine s_mv (.inl rfl) (by conv => lhs; whnf) rfl rfl rfl ?_
  refine s_mv (.inl rfl) (by conv => lhs; whnf) rfl rfl rfl ?_
  refine bnd1_elim h fun x1 q2 h => ?_
  refine s_callN (kb := [(1000, 0)]) (ns := []) (v := .sc (.int .i64 x1)) rfl rfl cl46 (wslices_IndexFunc_Entry p0 fi1 cp1 hf1 hb1 p1 hg1 x1 q2) rfl (.cons (lendL rfl (.head _) rfl mEntryV_free mEntryV_len) (.cons (relFn hf1) .nil)) trivial memNil .nil (fun _ _ => List.not_mem_nil) rfl trivial memNil rfl rfl rfl rfl rfl rfl ?_
  refine s_mv (.inr rfl) (by conv => lhs; whnf) rfl rfl rfl ?_
  refine rt_nil ?_
  refine tri_seq ?_
  refine tri_seq ?_
  refine tri_region ?_
  refine s_mv (.inl rfl) (by conv => lhs; whnf) rfl rfl rfl ?_
  refine s_of (st_eqI rfl rfl rfl) rfl rfl rfl rfl ?_
  refine rt_nil ?_
  refine tri_cond rfl (fun c3 => ?_) (fun c3 => ?_)
  · replace h := cond_t h c3
    refine tri_seq ?_
    refine tri_region ?_
    refine s_mv (.inl rfl) (by conv => lhs; whnf) rfl rfl rfl ?_
    refine s_mv (.inr rfl) (by conv => lhs; whnf) rfl rfl rfl ?_
    refine rt_nil ?_
    refine tri_ret ?_
    have e0 := (some2 h).1; have e1 := (some2 h).2; subst e0; subst e1
    exact endG0 [((1000, 0), ⟨39, 6, List.map mEntryV p0, false, false⟩, some (1000, 0))] [] (rvC (resTmp rfl) rvN) ⟨⟨rfl, _, rfl, rfl, rfl, rfl, id, rowsCv_eq rfl (allFree_map mEntryV_free), rowsZ_map mEntryV_len⟩, trivial⟩ trivial rfl rfl (by kernel_rfl) (.ref rfl)
  · replace h := cond_f h c3
    refine tri_skip ?_
    refine tri_cutI (ι := { p : (List MEntry) × Int // slices_DeleteFunc_Entry_j0 p.1 p.2 = some (r0, r1) }) (fun p => inv_slices_DeleteFunc_Entry_0 p.1.1 p.1.2) ?_ ?_
    · skip
      refine tri_seq ?_
      refine tri_region ?_
      refine s_mv (.inl rfl) (by conv => lhs; whnf) rfl rfl rfl ?_
      refine grd_elim h fun g4 h => ?_
      refine s_addI rfl rfl rfl rfl g4 rfl rfl rfl ?_
      refine s_mv (.inr rfl) (by conv => lhs; whnf) rfl rfl rfl ?_
      refine rt_nil ?_
      refine tri_block ?_
      refine tri_loop (ι := { p : Nat × (List MEntry) × Int × Int // slices_DeleteFunc_Entry_l1 p1 p.1 p.2.1 p.2.2.1 p.2.2.2 = some (r0, r1) }) (fun p => inv_slices_DeleteFunc_Entry_1 fi1 cp1 p.1.2.1 p.1.2.2.1 p.1.2.2.2) (fun p => p.1.1) ⟨(fuel0, p0, x1, x1 + 1), h⟩ ?_ ?_
      · skip
        refine entX [((1000, 0), ⟨39, 6, List.map mEntryV p0, false, false⟩, some (1000, 0))] [] ⟨⟨rfl, _, rfl, rfl, rfl, rfl, id, rowsCv_eq rfl (allFree_map mEntryV_free), rowsZ_map mEntryV_len⟩, trivial⟩ trivial rfl rfl ?_
        exact ⟨(.ref rfl), (cvFn hf1), (.free rfl), (.free rfl), trivial⟩
      · rintro ⟨⟨f1, v1_0, v1_1, v1_2⟩, h⟩
        replace h : slices_DeleteFunc_Entry_l1 p1 f1 v1_0 v1_1 v1_2 = some (r0, r1) := h
        cases f1 with
        | zero => cases h
        | succ f1 =>
        rw [slices_DeleteFunc_Entry_l1] at h
        show Tri _ _ _ (inv_slices_DeleteFunc_Entry_1 fi1 cp1 v1_0 v1_1 v1_2)
        refine tri_seq ?_
        refine tri_seq ?_
        refine tri_region ?_
        refine s_mv (.inl rfl) (by conv => lhs; whnf) rfl rfl rfl ?_
        refine s_mv (.inl rfl) (by conv => lhs; whnf) rfl rfl rfl ?_
        refine s_len (m := v1_0.length) rfl sl22 rfl rfl rfl rfl ?_
        refine s_of (st_lss rfl rfl rfl) rfl rfl rfl rfl ?_
        refine rt_nil ?_
        refine tri_cond rfl (fun c5 => ?_) (fun c5 => ?_)
        · replace h := cond_t h c5
          refine tri_skip ?_
          refine tri_seq ?_
          refine tri_block ?_
          refine tri_seq ?_
          refine tri_region ?_
          refine s_mv (.inl rfl) (by conv => lhs; whnf) rfl rfl rfl ?_
          refine s_mv (.inl rfl) (by conv => lhs; whnf) rfl rfl rfl ?_
          refine bnd1_elim h fun x6 q7 h => ?_
          have q7a := (idx_some q7).1; have q7b := (idx_some q7).2
          refine s_indexZ rfl rfl rfl rfl sl22 rfl q7a (get_lt q7b) rfl rfl rfl ?_
          refine s_loadR rfl rfl rfl (rowG q7b) ty39 rfl rfl rfl ?_
          refine s_alloc rfl rfl rfl zc39 rfl rfl rfl rfl rfl ?_
          refine s_storeB rfl rfl rfl ty39 rfl rfl rfl rfl rfl ?_
          refine rt_nil ?_
          refine tri_seq ?_
          refine tri_region ?_
          refine s_mv (.inl rfl) (by conv => lhs; whnf) rfl rfl rfl ?_
          refine s_loadR rfl rfl rfl rfl ty39 rfl rfl rfl ?_
          refine bnd1_elim h fun x8 q9 h => ?_
          refine s_callN (kb := []) (ns := []) (v := .sc (.bool x8)) rfl rfl hb1 (hg1 x6 x8 q9) rfl (.cons (relAgg rfl) (argsFree hf1)) trivial memNil .nil memNil rfl trivial memNil rfl rfl rfl rfl rfl rfl ?_
          refine s_of (st_not rfl rfl) rfl rfl rfl rfl ?_
          refine rt_nil ?_
          refine tri_cond rfl (fun c10 => ?_) (fun c10 => ?_)
          · replace h := cond_t h c10
            refine tri_seq ?_
            refine tri_region ?_
            refine s_mv (.inl rfl) (by conv => lhs; whnf) rfl rfl rfl ?_
            refine s_mv (.inl rfl) (by conv => lhs; whnf) rfl rfl rfl ?_
            refine s_loadR rfl rfl rfl rfl ty39 rfl rfl rfl ?_
            refine bnd1_elim h fun x11 q12 h => ?_
            have q12a := (idx_some q12).1; have q12b := (idx_some q12).2
            refine s_indexZ rfl rfl rfl rfl sl22 rfl q12a (get_lt q12b) rfl rfl rfl ?_
            refine s_storeL (x' := x6) rfl rfl rfl q12b ty39 rfl rfl rfl rfl rfl rfl ?_
            refine rt_nil ?_
            refine tri_region ?_
            refine s_mv (.inl rfl) (by conv => lhs; whnf) rfl rfl rfl ?_
            refine grd_elim h fun g13 h => ?_
            refine s_addI rfl rfl rfl rfl g13 rfl rfl rfl ?_
            refine s_mv (.inr rfl) (by conv => lhs; whnf) rfl rfl rfl ?_
            refine rt_nil ?_
            refine tri_region ?_
            refine s_mv (.inl rfl) (by conv => lhs; whnf) rfl rfl rfl ?_
            refine grd_elim h fun g14 h => ?_
            refine s_addI rfl rfl rfl rfl g14 rfl rfl rfl ?_
            refine s_mv (.inr rfl) (by conv => lhs; whnf) rfl rfl rfl ?_
            refine rt_nil ?_
            refine Exists.intro ⟨(f1, v1_0.set v1_1.toNat x6, v1_1 + 1, v1_2 + 1), h⟩ (And.intro (Nat.lt_succ_self _) ?_)
            refine entX [((1000, 0), ⟨39, 6, List.map mEntryV (v1_0.set v1_1.toNat x6), false, false⟩, some (1000, 0))] [] ⟨⟨rfl, _, rfl, rfl, rfl, rfl, id, rowsCv_eq rfl (allFree_map mEntryV_free), rowsZ_map mEntryV_len⟩, trivial⟩ trivial rfl rfl ?_
            exact ⟨(cvRefLen rfl (by simp only [List.length_set])), (cvFn hf1), (.free rfl), (.free rfl), trivial⟩
          · replace h := cond_f h c10
            refine tri_skip ?_
            refine tri_region ?_
            refine s_mv (.inl rfl) (by conv => lhs; whnf) rfl rfl rfl ?_
            refine grd_elim h fun g15 h => ?_
            refine s_addI rfl rfl rfl rfl g15 rfl rfl rfl ?_
            refine s_mv (.inr rfl) (by conv => lhs; whnf) rfl rfl rfl ?_
            refine rt_nil ?_
            refine Exists.intro ⟨(f1, v1_0, v1_1, v1_2 + 1), h⟩ (And.intro (Nat.lt_succ_self _) ?_)
            refine entX [((1000, 0), ⟨39, 6, List.map mEntryV v1_0, false, false⟩, some (1000, 0))] [] ⟨⟨rfl, _, rfl, rfl, rfl, rfl, id, rowsCv_eq rfl (allFree_map mEntryV_free), rowsZ_map mEntryV_len⟩, trivial⟩ trivial rfl rfl ?_
            exact ⟨(.ref rfl), (cvFn hf1), (.free rfl), (.free rfl), trivial⟩
        · replace h := cond_f h c5
          refine tri_exit ?_
          refine Exists.intro ⟨(v1_0, v1_1), h⟩ ?_
          refine entX [((1000, 0), ⟨39, 6, List.map mEntryV v1_0, false, false⟩, some (1000, 0))] [] ⟨⟨rfl, _, rfl, rfl, rfl, rfl, id, rowsCv_eq rfl (allFree_map mEntryV_free), rowsZ_map mEntryV_len⟩, trivial⟩ trivial rfl rfl ?_
          exact ⟨(.ref rfl), (.free rfl), trivial⟩
    · rintro ⟨⟨j0_0, j0_1⟩, h⟩
      replace h : slices_DeleteFunc_Entry_j0 j0_0 j0_1 = some (r0, r1) := h
      unfold slices_DeleteFunc_Entry_j0 at h
      show Tri _ _ _ (inv_slices_DeleteFunc_Entry_0 j0_0 j0_1)
      refine tri_seq ?_
      refine tri_region ?_
      refine s_mv (.inl rfl) (by conv => lhs; whnf) rfl rfl rfl ?_
      refine s_mv (.inl rfl) (by conv => lhs; whnf) rfl rfl rfl ?_
      refine grd_elim h fun g4 h => ?_
      refine s_sliceZ (a := j0_1) (b := (j0_0.length : Int)) rfl rfl rfl sl22 rfl ⟨_, rfl⟩ rfl g4 rfl rfl rfl ?_
      refine s_clear rfl rfl rfl sl22 zc39 rfl rfl (by first | omega | (simp only [List.length_set]; omega) | (simp only [List.length_set, List.length_append, List.length_take, List.length_drop] at *; omega)) rfl rfl rfl ?_
      refine rt_nil ?_
      refine tri_seq ?_
      refine tri_region ?_
      refine s_mv (.inl rfl) (by conv => lhs; whnf) rfl rfl rfl ?_
      refine s_mv (.inl rfl) (by conv => lhs; whnf) rfl rfl rfl ?_
      refine grd_elim h fun g5 h => ?_
      refine s_sliceZ (a := ((0 : Nat) : Int)) (b := j0_1) rfl rfl rfl sl22 rfl rfl ⟨_, rfl⟩ g5 rfl rfl rfl ?_
      refine s_mv (.inr rfl) (by conv => lhs; whnf) rfl rfl rfl ?_
      refine rt_nil ?_
      refine tri_ret ?_
      have e0 := (some2 h).1; have e1 := (some2 h).2; subst e0; subst e1
      exact endG0 [((1000, 0), ⟨39, 6, List.map mEntryV (j0_0.take (0 + j0_1.toNat)), false, false⟩, some (1000, 0))] [] (rvC (resTmp rfl) rvN) ⟨⟨rfl, _, rfl, rfl, rfl, rfl, id, rowsCv_eq rfl (allFree_map mEntryV_free), rowsZ_map mEntryV_len⟩, trivial⟩ trivial rfl rfl (by kernel_rfl) (cvRefPre rfl rfl (by simp only [List.length_take, List.length_drop, List.length_set]; omega))
def slices_DeleteFunc_Entry_I_j0 {n : Nat}  (j0_0 : List (Fin n)) (j0_1 : Int) : Option ((List (Fin n)) × (List (Fin n))) :=
  grd ((0 : Int) ≤ j0_1 ∧ j0_1 ≤ (j0_0.length : Int) ∧ (j0_0.length : Int) ≤ (j0_0.length : Int)) (grd ((0 : Int) ≤ ((0 : Nat) : Int) ∧ ((0 : Nat) : Int) ≤ j0_1 ∧ j0_1 ≤ (j0_0.length : Int)) (some ((j0_0.take (0 + j0_1.toNat)), j0_0.take (0 + j0_1.toNat))))
def slices_DeleteFunc_Entry_I_l1 {n : Nat} (p1 : Fin n → Option Bool) : Nat → (List (Fin n)) → Int → Int → Option ((List (Fin n)) × (List (Fin n)))
  | 0, _, _, _ => none
  | f1 + 1, v1_0, v1_1, v1_2 => bif decide (v1_2 < (v1_0.length : Int)) then (bnd1 (idx v1_0 v1_2) (fun x6 => bnd1 (p1 x6) (fun x8 => bif !x8 then (bnd1 (idx v1_0 v1_1) (fun x11 => grd (i64 (v1_1 + 1)) (grd (i64 (v1_2 + 1)) (slices_DeleteFunc_Entry_I_l1 p1 f1 (v1_0.set v1_1.toNat x6) (v1_1 + 1) (v1_2 + 1))))) else (grd (i64 (v1_2 + 1)) (slices_DeleteFunc_Entry_I_l1 p1 f1 v1_0 v1_1 (v1_2 + 1)))))) else (slices_DeleteFunc_Entry_I_j0 v1_0 v1_1)
def slices_DeleteFunc_Entry_I {n : Nat} (p0 : List (Fin n)) (p1 : Fin n → Option Bool) : Option ((List (Fin n)) × (List (Fin n))) :=
  bnd1 (slices_IndexFunc_Entry_I p0 p1) (fun x1 => bif decide (x1 = (-1)) then (some (p0, p0)) else (grd (i64 (x1 + 1)) (slices_DeleteFunc_Entry_I_l1 p1 fuel0 p0 x1 (x1 + 1))))
theorem slices_DeleteFunc_Entry_I_nat {n : Nat} {φ : Fin n → MEntry} {p : MEntry → Option Bool} : ∀ (f : Nat) (v : List (Fin n)) (a b : Int), slices_DeleteFunc_Entry_l1 p f (v.map φ) a b = (slices_DeleteFunc_Entry_I_l1 (fun i => p (φ i)) f v a b).map fun r => (r.1.map φ, r.2.map φ)
  | 0, _, _, _ => rfl
  | f + 1, v, a, b => by
    rw [slices_DeleteFunc_Entry_l1, slices_DeleteFunc_Entry_I_l1, List.length_map]
    cases hd : decide (b < (v.length : Int))
    · rw [cond_false, cond_false]
      unfold slices_DeleteFunc_Entry_j0 slices_DeleteFunc_Entry_I_j0
      rw [grdI_map, grdI_map, List.length_map, Option.map_some, List.map_take]
    · rw [cond_true, cond_true, idxI_map]
      cases idx v b with
      | none => rfl
      | some x =>
        rw [Option.map_some, bnd1_mk, bnd1_mk]
        cases hp : p (φ x) with
        | none => rfl
        | some c =>
          rw [bnd1_mk, bnd1_mk]
          cases c
          · rw [Bool.not_false, cond_true, cond_true, idxI_map]
            cases idx v a with
            | none => rfl
            | some y =>
              rw [Option.map_some, bnd1_mk, bnd1_mk, grdI_map, grdI_map, ← List.map_set, slices_DeleteFunc_Entry_I_nat f]
          · rw [Bool.not_true, cond_false, cond_false, grdI_map, slices_DeleteFunc_Entry_I_nat f]
theorem slices_IndexFunc_Entry_I_in {n : Nat} {q1 : Fin n → Option Bool} : ∀ (is : List (Fin n)) (v : Nat) (x : Int), slices_IndexFunc_Entry_I_l0 q1 is v = some x → x = -1 ∨ ∃ k : Nat, k < is.length ∧ x = ((v + k : Nat) : Int)
  | [], _, x, h => by
    rw [slices_IndexFunc_Entry_I_l0] at h
    exact .inl (Option.some.inj h).symm
  | i :: is, v, x, h => by
    rw [slices_IndexFunc_Entry_I_l0] at h
    obtain ⟨c, -, h⟩ := bnd1_some h
    cases c
    · rcases slices_IndexFunc_Entry_I_in is (v + 1) x h with h1 | ⟨k, h1, h2⟩
      · exact .inl h1
      · exact .inr ⟨k + 1, by simp; omega, by rw [h2]; congr 1; omega⟩
    · exact .inr ⟨0, by simp, (Option.some.inj h).symm⟩
theorem slices_DeleteFunc_Entry_I_sub {n : Nat} {q1 : Fin n → Option Bool} : ∀ (R A J : List (Fin n)) (f : Nat) (r0 r1 : List (Fin n)), J ≠ [] → slices_DeleteFunc_Entry_I_l1 q1 f (A ++ (J ++ R)) (A.length : Int) ((A.length : Int) + (J.length : Int)) = some (r0, r1) → ∃ B : List (Fin n), B.Sublist R ∧ r1 = A ++ B
  | _, _, _, 0, _, _, _, h => by cases h
  | [], A, J, f + 1, r0, r1, _, h => by
    have h1 : ((A ++ (J ++ [])).length : Int) = (A.length : Int) + (J.length : Int) := by simp
    have h2 : ¬ ((A.length : Int) + (J.length : Int) < ((A ++ (J ++ [])).length : Int)) := by omega
    rw [slices_DeleteFunc_Entry_I_l1, decide_eq_false h2, cond_false] at h
    unfold slices_DeleteFunc_Entry_I_j0 at h
    have h := (grd_some (grd_some h).2).2
    have e := (some2 h).2
    exact ⟨[], .slnil, by rw [← e]; simp⟩
  | r :: R, A, J, f + 1, r0, r1, hJ, h => by
    obtain ⟨a, J', rfl⟩ : ∃ a J', J = a :: J' := by cases J with | nil => exact absurd rfl hJ | cons a J' => exact ⟨a, J', rfl⟩
    have h1 : (A.length : Int) + ((a :: J').length : Int) < ((A ++ (a :: J' ++ r :: R)).length : Int) := by simp; omega
    have g0 : ∀ {B : List (Fin n)} {x : Fin n} {C : List (Fin n)}, (B ++ x :: C)[B.length]? = some x := fun {B x C} => by simp
    have e1 : idx (A ++ (a :: J' ++ r :: R)) ((A.length : Int) + ((a :: J').length : Int)) = some r := by
      unfold idx
      rw [if_pos (by omega), ← List.append_assoc, ← Int.natCast_add, Int.toNat_natCast, ← List.length_append]; exact g0
    have e2 : idx (A ++ (a :: J' ++ r :: R)) (A.length : Int) = some a := by
      unfold idx
      rw [if_pos (by omega), Int.toNat_natCast]; exact g0
    rw [slices_DeleteFunc_Entry_I_l1, decide_eq_true h1, cond_true, e1, bnd1_mk] at h
    obtain ⟨c, -, h⟩ := bnd1_some h
    cases c
    · rw [Bool.not_false, cond_true, e2, bnd1_mk] at h
      have h := (grd_some (grd_some h).2).2
      have es : (A ++ (a :: J' ++ r :: R)).set (A.length : Int).toNat r = A ++ [r] ++ (J' ++ [r] ++ R) := by simp
      have k1 : (A.length : Int) + 1 = ((A ++ [r]).length : Int) := by simp
      have k2 : (A.length : Int) + ((a :: J').length : Int) + 1 = ((A ++ [r]).length : Int) + ((J' ++ [r]).length : Int) := by simp; omega
      rw [es, k1, k2] at h
      obtain ⟨B, h3, h4⟩ := slices_DeleteFunc_Entry_I_sub R (A ++ [r]) (J' ++ [r]) f r0 r1 (by simp) h
      exact ⟨r :: B, h3.cons_cons r, by rw [h4]; simp⟩
    · rw [Bool.not_true, cond_false] at h
      have h := (grd_some h).2
      have es : A ++ (a :: J' ++ r :: R) = A ++ (a :: J' ++ [r] ++ R) := by simp
      have k2 : (A.length : Int) + ((a :: J').length : Int) + 1 = (A.length : Int) + ((a :: J' ++ [r]).length : Int) := by simp; omega
      rw [es, k2] at h
      obtain ⟨B, h3, h4⟩ := slices_DeleteFunc_Entry_I_sub R A (a :: J' ++ [r]) f r0 r1 (by simp) h
      exact ⟨B, h3.cons r, h4⟩
theorem slices_DeleteFunc_Entry_I_elim {l : List MEntry} {p : MEntry → Option Bool} {r0 r1 : List MEntry} {C : Prop} (h : slices_DeleteFunc_Entry l p = some (r0, r1)) (k : ∀ q0 q1 : List (Fin l.length), q1.map l.get = r1 → q1.Nodup → slices_DeleteFunc_Entry_I (List.finRange l.length) (fun i => p (l.get i)) = some (q0, q1) → C) : C := by
  have key : slices_DeleteFunc_Entry l p = (slices_DeleteFunc_Entry_I (List.finRange l.length) (fun i => p (l.get i))).map fun r => (r.1.map l.get, r.2.map l.get) := by
    unfold slices_DeleteFunc_Entry slices_DeleteFunc_Entry_I
    have e : slices_IndexFunc_Entry_I (List.finRange l.length) (fun i => p (l.get i)) = slices_IndexFunc_Entry l p := by
      unfold slices_IndexFunc_Entry_I slices_IndexFunc_Entry
      rw [slices_IndexFunc_Entry_I_eq (φ := l.get) (p1 := p) (fun i => rfl), finMap_get]
    rw [e]
    cases slices_IndexFunc_Entry l p with
    | none => rfl
    | some x =>
      rw [bnd1_mk, bnd1_mk]
      cases decide (x = -1)
      · rw [cond_false, cond_false, grdI_map, ← slices_DeleteFunc_Entry_I_nat, finMap_get]
      · rw [cond_true, cond_true, Option.map_some, finMap_get]
  rw [key] at h
  cases hI : slices_DeleteFunc_Entry_I (List.finRange l.length) (fun i => p (l.get i)) with
  | none => rw [hI] at h; cases h
  | some q =>
    obtain ⟨q0, q1⟩ := q
    rw [hI, Option.map_some] at h
    refine k q0 q1 (some2 h).2 ?_ hI
    unfold slices_DeleteFunc_Entry_I at hI
    obtain ⟨x, hx, hI⟩ := bnd1_some hI
    have hn : (List.finRange l.length).Nodup := List.nodup_finRange _
    cases hc : decide (x = -1)
    · rw [hc, cond_false] at hI
      have hI := (grd_some hI).2
      rcases slices_IndexFunc_Entry_I_in _ _ _ hx with h1 | ⟨j, h1, h2⟩
      · rw [h1] at hc; cases hc
      · rw [Nat.zero_add] at h2
        subst h2
        have es : List.finRange l.length = (List.finRange l.length).take j ++ ([(List.finRange l.length)[j]] ++ (List.finRange l.length).drop (j + 1)) := by
          rw [List.singleton_append, ← List.drop_eq_getElem_cons h1, List.take_append_drop]
        have hlen : ((List.finRange l.length).take j).length = j := by rw [List.length_take]; omega
        have hI' : slices_DeleteFunc_Entry_I_l1 (fun i => p (l.get i)) fuel0 ((List.finRange l.length).take j ++ ([(List.finRange l.length)[j]] ++ (List.finRange l.length).drop (j + 1))) (((List.finRange l.length).take j).length : Int) ((((List.finRange l.length).take j).length : Int) + (([(List.finRange l.length)[j]] : List (Fin l.length)).length : Int)) = some (q0, q1) := by
          rw [← es, hlen]; exact hI
        obtain ⟨B, h3, h4⟩ := slices_DeleteFunc_Entry_I_sub _ _ _ _ _ _ (by simp) hI'
        rw [h4]
        refine List.Sublist.nodup ?_ hn
        conv => rhs; rw [es]
        exact (List.Sublist.refl _).append (h3.trans (List.sublist_append_right _ _))
    · rw [hc, cond_true] at hI
      rw [← (some2 hI).2]; exact hn
def invI_slices_DeleteFunc_Entry_1 (pl : List MEntry) (fi1 : FuncId) (cp1 : List V) (v1_0 : List (Fin pl.length)) (v1_1 : Int) (v1_2 : Int) : St := mkT 42 [(0, .ref (1000, 0) 0 v1_0.length), (1, .fn fi1 cp1), (5, .sc (.int .i64 v1_1)), (6, .sc (.int .i64 v1_2))] (((1000, 0), some ⟨39, 6, List.map (fI mEntryN 1000 1 pl) v1_0, false, false⟩) :: (fam 1000 1 (List.map mEntryP pl) ++ []))
def invI_slices_DeleteFunc_Entry_0 (pl : List MEntry)  (j0_0 : List (Fin pl.length)) (j0_1 : Int) : St := mkT 42 [(0, .ref (1000, 0) 0 j0_0.length), (5, .sc (.int .i64 j0_1))] (((1000, 0), some ⟨39, 6, List.map (fI mEntryN 1000 1 pl) j0_0, false, false⟩) :: (fam 1000 1 (List.map mEntryP pl) ++ []))
set_option maxRecDepth 4000 in
set_option maxHeartbeats 800000 in
theorem wIslices_DeleteFunc_Entry (pl : List MEntry) (p0 : List (Fin pl.length)) (fi1 : FuncId) (cp1 : List V) (hf1 : cp1.all (·.free) = true) (hb1 : callable Try.prog fi1 = true) (p1 : MEntry → Option Bool) (hg1 : ∀ (z0 : MEntry) v, p1 z0 = some v → Runs Try.prog fi1 ([.agg (mEntryV z0)] ++ cp1) [] (.sc (.bool v)) []) (q1 : Fin pl.length → Option Bool) (hq1 : ∀ i, q1 i = p1 (pl.get i)) (r0 : List (Fin pl.length)) (r1 : List (Fin pl.length)) (h : slices_DeleteFunc_Entry_I p0 q1 = some (r0, r1)) : RunsG Try.prog 37 [.ref (1000, 0) 0 p0.length, .fn fi1 cp1] ([⟨39, 6, List.map (fI mEntryN 1000 1 pl) p0, false, false⟩] ++ List.map mEntryP pl) (.ref (1000, 0) 0 r1.length) [] ([⟨39, 6, List.map (fI mEntryN 1000 1 pl) r1, false, false⟩] ++ List.map mEntryP pl) := by
  unfold slices_DeleteFunc_Entry_I at h
  refine runsG [.tmp 4] Try.func37 rfl rfl rfl rfl ?_
  rw [Try.ntmps37, outsL_one]
  refine tri_seq ?_
  refine tri_region ?_
  refine s_mv (.inr rfl) (v := .nils) rfl rfl rfl rfl ?_
  refine rt_nil ?_
  refine tri_seq ?_
  refine tri_region ?_
  refine s_mv (.inl rfl) (by conv => lhs; whnf) rfl rfl rfl ?_
  refine s_mv (.inl rfl) (by conv => lhs; whnf) rfl rfl rfl ?_
  refine bnd1_elim h fun x1 q2 h => ?_
  refine s_callN (kb := (1000, 0) :: famN 1000 1 pl.length) (ns := []) (v := .sc (.int .i64 x1)) rfl rfl cl46 (wslices_IndexFunc_Entry (p0.map pl.get) fi1 cp1 hf1 hb1 p1 hg1 x1 (slices_IndexFunc_Entry_I_of hq1 q2)) rfl (.cons (lendI (a := 1000) (b := 1) (f := mEntryN) (g := mEntryP) (l := pl) rfl (.head _) rfl (fun i x hx => ⟨List.mem_cons_of_mem _ (famN_iff.2 ⟨i, (List.getElem?_eq_some_iff.1 hx).1, rfl⟩), (by repeat (first | exact fam_lk (by rw [List.getElem?_map, hx]; rfl) | refine lkTo rfl ?_))⟩) (fun m x hm hl => (.cons (.free rfl) (.cons (.free rfl) (.cons (.free rfl) (.cons (lendL hl hm rfl recV_free recV_len) (.cons (.free rfl) (.cons (.free rfl) .nil))))))) mEntryV_free mEntryV_len) (.cons (relFn hf1) .nil)) trivial memNil .nil (fun _ _ => List.not_mem_nil) rfl trivial memNil rfl rfl rfl rfl rfl rfl ?_
  refine s_mv (.inr rfl) (by conv => lhs; whnf) rfl rfl rfl ?_
  refine rt_nil ?_
  refine tri_seq ?_
  refine tri_seq ?_
  refine tri_region ?_
  refine s_mv (.inl rfl) (by conv => lhs; whnf) rfl rfl rfl ?_
  refine s_of (st_eqI rfl rfl rfl) rfl rfl rfl rfl ?_
  refine rt_nil ?_
  refine tri_cond rfl (fun c3 => ?_) (fun c3 => ?_)
  · replace h := cond_t h c3
    refine tri_seq ?_
    refine tri_region ?_
    refine s_mv (.inl rfl) (by conv => lhs; whnf) rfl rfl rfl ?_
    refine s_mv (.inr rfl) (by conv => lhs; whnf) rfl rfl rfl ?_
    refine rt_nil ?_
    refine tri_ret ?_
    have e0 := (some2 h).1; have e1 := (some2 h).2; subst e0; subst e1
    exact nest_endW (b := 1) (l := pl) (g := mEntryP) [((1000, 0), ⟨39, 6, List.map (fI mEntryN 1000 1 pl) p0, false, false⟩, some (1000, 0))] [⟨39, 6, List.map (fI mEntryN 1000 1 pl) p0, false, false⟩] (rvC (resTmp rfl) rvN) ⟨⟨rfl, _, rfl, rfl, rfl, rfl, id, rowsCv_I rfl (fun x h => mEntryN_cv x h), rowsZ_I mEntryN_z⟩, trivial⟩ rfl rfl (fun _ => rfl) rfl (fun j y hy => (by repeat (first | exact fam_lk (by rw [List.getElem?_map, hy]; rfl) | refine lkTo rfl ?_))) mEntryP_f mEntryP_z (by repeat (first | exact only_famL | refine only_lit (by decide) ?_ | refine only_oth rfl ?_)) (fun j hj => by cases (Nat.lt_one_iff.1 hj : j = 0); rfl) rfl rfl (.ref rfl)
  · replace h := cond_f h c3
    refine tri_skip ?_
    refine tri_cutI (ι := { p : (List (Fin pl.length)) × Int // slices_DeleteFunc_Entry_I_j0 p.1 p.2 = some (r0, r1) }) (fun p => invI_slices_DeleteFunc_Entry_0 pl p.1.1 p.1.2) ?_ ?_
    · skip
      refine tri_seq ?_
      refine tri_region ?_
      refine s_mv (.inl rfl) (by conv => lhs; whnf) rfl rfl rfl ?_
      refine grd_elim h fun g4 h => ?_
      refine s_addI rfl rfl rfl rfl g4 rfl rfl rfl ?_
      refine s_mv (.inr rfl) (by conv => lhs; whnf) rfl rfl rfl ?_
      refine rt_nil ?_
      refine tri_block ?_
      refine tri_loop (ι := { p : Nat × (List (Fin pl.length)) × Int × Int // slices_DeleteFunc_Entry_I_l1 q1 p.1 p.2.1 p.2.2.1 p.2.2.2 = some (r0, r1) }) (fun p => invI_slices_DeleteFunc_Entry_1 pl fi1 cp1 p.1.2.1 p.1.2.2.1 p.1.2.2.2) (fun p => p.1.1) ⟨(fuel0, p0, x1, x1 + 1), h⟩ ?_ ?_
      · skip
        refine entB (b := 1) (l := pl) (g := mEntryP) (items := [((1000, 0), ⟨39, 6, List.map (fI mEntryN 1000 1 pl) p0, false, false⟩, some (1000, 0))]) ⟨⟨rfl, _, rfl, rfl, rfl, rfl, id, rowsCv_I rfl (fun x h => mEntryN_cv x h), rowsZ_I mEntryN_z⟩, trivial⟩ rfl rfl rfl (fun j y hy => (by repeat (first | exact fam_lk (by rw [List.getElem?_map, hy]; rfl) | refine lkTo rfl ?_))) mEntryP_f mEntryP_z (by repeat (first | exact only_famL | refine only_lit (by decide) ?_ | refine only_oth rfl ?_)) (fun j hj => by cases (Nat.lt_one_iff.1 hj : j = 0); rfl) ?_
        exact ⟨(.ref rfl), (cvFn hf1), (.free rfl), (.free rfl), trivial⟩
      · rintro ⟨⟨f1, v1_0, v1_1, v1_2⟩, h⟩
        replace h : slices_DeleteFunc_Entry_I_l1 q1 f1 v1_0 v1_1 v1_2 = some (r0, r1) := h
        cases f1 with
        | zero => cases h
        | succ f1 =>
        rw [slices_DeleteFunc_Entry_I_l1] at h
        show Tri _ _ _ (invI_slices_DeleteFunc_Entry_1 pl fi1 cp1 v1_0 v1_1 v1_2)
        refine tri_seq ?_
        refine tri_seq ?_
        refine tri_region ?_
        refine s_mv (.inl rfl) (by conv => lhs; whnf) rfl rfl rfl ?_
        refine s_mv (.inl rfl) (by conv => lhs; whnf) rfl rfl rfl ?_
        refine s_len (m := v1_0.length) rfl sl22 rfl rfl rfl rfl ?_
        refine s_of (st_lss rfl rfl rfl) rfl rfl rfl rfl ?_
        refine rt_nil ?_
        refine tri_cond rfl (fun c5 => ?_) (fun c5 => ?_)
        · replace h := cond_t h c5
          refine tri_skip ?_
          refine tri_seq ?_
          refine tri_block ?_
          refine tri_seq ?_
          refine tri_region ?_
          refine s_mv (.inl rfl) (by conv => lhs; whnf) rfl rfl rfl ?_
          refine s_mv (.inl rfl) (by conv => lhs; whnf) rfl rfl rfl ?_
          refine bnd1_elim h fun x6 q7 h => ?_
          have q7a := (idx_some q7).1; have q7b := (idx_some q7).2
          refine s_indexZ rfl rfl rfl rfl sl22 rfl q7a (get_lt q7b) rfl rfl rfl ?_
          refine s_loadR rfl rfl rfl (rowG q7b) ty39 rfl rfl rfl ?_
          refine s_alloc rfl rfl (by repeat (first | exact rfl | exact famNo rfl rfl | refine lkNo rfl ?_)) zc39 rfl rfl rfl rfl rfl ?_
          refine s_storeB rfl rfl rfl ty39 rfl rfl rfl rfl rfl ?_
          refine rt_nil ?_
          refine tri_seq ?_
          refine tri_region ?_
          refine s_mv (.inl rfl) (by conv => lhs; whnf) rfl rfl rfl ?_
          refine s_loadR rfl rfl rfl rfl ty39 rfl rfl rfl ?_
          refine bnd1_elim h fun x8 q9 h => ?_
          refine s_callN (kb := [(1000, x6.val + 1)]) (ns := []) (v := .sc (.bool x8)) rfl rfl hb1 (hg1 (pl.get x6) x8 ((hq1 x6).symm.trans q9)) rfl (.cons (relAggL (.cons (.free rfl) (.cons (.free rfl) (.cons (.free rfl) (.cons (lendL (by repeat (first | exact famI_lk x6 | refine lkTo rfl ?_)) (.head _) rfl recV_free recV_len) (.cons (.free rfl) (.cons (.free rfl) .nil))))))) (argsFree hf1)) trivial memNil .nil (fun _ _ => List.not_mem_nil) rfl trivial memNil rfl rfl rfl rfl rfl rfl ?_
          refine s_of (st_not rfl rfl) rfl rfl rfl rfl ?_
          refine rt_nil ?_
          refine tri_cond rfl (fun c10 => ?_) (fun c10 => ?_)
          · replace h := cond_t h c10
            refine tri_seq ?_
            refine tri_region ?_
            refine s_mv (.inl rfl) (by conv => lhs; whnf) rfl rfl rfl ?_
            refine s_mv (.inl rfl) (by conv => lhs; whnf) rfl rfl rfl ?_
            refine s_loadR rfl rfl rfl rfl ty39 rfl rfl rfl ?_
            refine bnd1_elim h fun x11 q12 h => ?_
            have q12a := (idx_some q12).1; have q12b := (idx_some q12).2
            refine s_indexZ rfl rfl rfl rfl sl22 rfl q12a (get_lt q12b) rfl rfl rfl ?_
            refine s_storeL (x' := x6) rfl rfl rfl q12b ty39 rfl rfl rfl rfl rfl rfl ?_
            refine rt_nil ?_
            refine tri_region ?_
            refine s_mv (.inl rfl) (by conv => lhs; whnf) rfl rfl rfl ?_
            refine grd_elim h fun g13 h => ?_
            refine s_addI rfl rfl rfl rfl g13 rfl rfl rfl ?_
            refine s_mv (.inr rfl) (by conv => lhs; whnf) rfl rfl rfl ?_
            refine rt_nil ?_
            refine tri_region ?_
            refine s_mv (.inl rfl) (by conv => lhs; whnf) rfl rfl rfl ?_
            refine grd_elim h fun g14 h => ?_
            refine s_addI rfl rfl rfl rfl g14 rfl rfl rfl ?_
            refine s_mv (.inr rfl) (by conv => lhs; whnf) rfl rfl rfl ?_
            refine rt_nil ?_
            refine Exists.intro ⟨(f1, v1_0.set v1_1.toNat x6, v1_1 + 1, v1_2 + 1), h⟩ (And.intro (Nat.lt_succ_self _) ?_)
            refine entB (b := 1) (l := pl) (g := mEntryP) (items := [((1000, 0), ⟨39, 6, List.map (fI mEntryN 1000 1 pl) (v1_0.set v1_1.toNat x6), false, false⟩, some (1000, 0))]) ⟨⟨rfl, _, rfl, rfl, rfl, rfl, id, rowsCv_I rfl (fun x h => mEntryN_cv x h), rowsZ_I mEntryN_z⟩, trivial⟩ rfl rfl rfl (fun j y hy => (by repeat (first | exact fam_lk (by rw [List.getElem?_map, hy]; rfl) | refine lkTo rfl ?_))) mEntryP_f mEntryP_z (by repeat (first | exact only_famL | refine only_lit (by decide) ?_ | refine only_oth rfl ?_)) (fun j hj => by cases (Nat.lt_one_iff.1 hj : j = 0); rfl) ?_
            exact ⟨(cvRefLen rfl (by simp only [List.length_set])), (cvFn hf1), (.free rfl), (.free rfl), trivial⟩
          · replace h := cond_f h c10
            refine tri_skip ?_
            refine tri_region ?_
            refine s_mv (.inl rfl) (by conv => lhs; whnf) rfl rfl rfl ?_
            refine grd_elim h fun g15 h => ?_
            refine s_addI rfl rfl rfl rfl g15 rfl rfl rfl ?_
            refine s_mv (.inr rfl) (by conv => lhs; whnf) rfl rfl rfl ?_
            refine rt_nil ?_
            refine Exists.intro ⟨(f1, v1_0, v1_1, v1_2 + 1), h⟩ (And.intro (Nat.lt_succ_self _) ?_)
            refine entB (b := 1) (l := pl) (g := mEntryP) (items := [((1000, 0), ⟨39, 6, List.map (fI mEntryN 1000 1 pl) v1_0, false, false⟩, some (1000, 0))]) ⟨⟨rfl, _, rfl, rfl, rfl, rfl, id, rowsCv_I rfl (fun x h => mEntryN_cv x h), rowsZ_I mEntryN_z⟩, trivial⟩ rfl rfl rfl (fun j y hy => (by repeat (first | exact fam_lk (by rw [List.getElem?_map, hy]; rfl) | refine lkTo rfl ?_))) mEntryP_f mEntryP_z (by repeat (first | exact only_famL | refine only_lit (by decide) ?_ | refine only_oth rfl ?_)) (fun j hj => by cases (Nat.lt_one_iff.1 hj : j = 0); rfl) ?_
            exact ⟨(.ref rfl), (cvFn hf1), (.free rfl), (.free rfl), trivial⟩
        · replace h := cond_f h c5
          refine tri_exit ?_
          refine Exists.intro ⟨(v1_0, v1_1), h⟩ ?_
          refine entB (b := 1) (l := pl) (g := mEntryP) (items := [((1000, 0), ⟨39, 6, List.map (fI mEntryN 1000 1 pl) v1_0, false, false⟩, some (1000, 0))]) ⟨⟨rfl, _, rfl, rfl, rfl, rfl, id, rowsCv_I rfl (fun x h => mEntryN_cv x h), rowsZ_I mEntryN_z⟩, trivial⟩ rfl rfl rfl (fun j y hy => (by repeat (first | exact fam_lk (by rw [List.getElem?_map, hy]; rfl) | refine lkTo rfl ?_))) mEntryP_f mEntryP_z (by repeat (first | exact only_famL | refine only_lit (by decide) ?_ | refine only_oth rfl ?_)) (fun j hj => by cases (Nat.lt_one_iff.1 hj : j = 0); rfl) ?_
          exact ⟨(.ref rfl), (.free rfl), trivial⟩
    · rintro ⟨⟨j0_0, j0_1⟩, h⟩
      replace h : slices_DeleteFunc_Entry_I_j0 j0_0 j0_1 = some (r0, r1) := h
      unfold slices_DeleteFunc_Entry_I_j0 at h
      show Tri _ _ _ (invI_slices_DeleteFunc_Entry_0 pl j0_0 j0_1)
      refine tri_seq ?_
      refine tri_region ?_
      refine s_mv (.inl rfl) (by conv => lhs; whnf) rfl rfl rfl ?_
      refine s_mv (.inl rfl) (by conv => lhs; whnf) rfl rfl rfl ?_
      refine grd_elim h fun g4 h => ?_
      refine s_sliceZ (a := j0_1) (b := (j0_0.length : Int)) rfl rfl rfl sl22 rfl ⟨_, rfl⟩ rfl g4 rfl rfl rfl ?_
      refine s_clear rfl rfl rfl sl22 zc39 rfl rfl (by first | omega | (simp only [List.length_set]; omega) | (simp only [List.length_set, List.length_append, List.length_take, List.length_drop] at *; omega)) rfl rfl rfl ?_
      refine rt_nil ?_
      refine tri_seq ?_
      refine tri_region ?_
      refine s_mv (.inl rfl) (by conv => lhs; whnf) rfl rfl rfl ?_
      refine s_mv (.inl rfl) (by conv => lhs; whnf) rfl rfl rfl ?_
      refine grd_elim h fun g5 h => ?_
      refine s_sliceZ (a := ((0 : Nat) : Int)) (b := j0_1) rfl rfl rfl sl22 rfl rfl ⟨_, rfl⟩ g5 rfl rfl rfl ?_
      refine s_mv (.inr rfl) (by conv => lhs; whnf) rfl rfl rfl ?_
      refine rt_nil ?_
      refine tri_ret ?_
      have e0 := (some2 h).1; have e1 := (some2 h).2; subst e0; subst e1
      exact nest_endW (b := 1) (l := pl) (g := mEntryP) [((1000, 0), ⟨39, 6, List.map (fI mEntryN 1000 1 pl) (j0_0.take (0 + j0_1.toNat)), false, false⟩, some (1000, 0))] [⟨39, 6, List.map (fI mEntryN 1000 1 pl) (j0_0.take (0 + j0_1.toNat)), false, false⟩] (rvC (resTmp rfl) rvN) ⟨⟨rfl, _, rfl, rfl, rfl, rfl, id, rowsCv_I rfl (fun x h => mEntryN_cv x h), rowsZ_I mEntryN_z⟩, trivial⟩ rfl rfl (fun _ => rfl) rfl (fun j y hy => (by repeat (first | exact fam_lk (by rw [List.getElem?_map, hy]; rfl) | refine lkTo rfl ?_))) mEntryP_f mEntryP_z (by repeat (first | exact only_famL | refine only_lit (by decide) ?_ | refine only_oth rfl ?_)) (fun j hj => by cases (Nat.lt_one_iff.1 hj : j = 0); rfl) rfl rfl (cvRefPre rfl rfl (by simp only [List.length_take, List.length_drop, List.length_set]; omega))

/- impl.Expire$1 -/

set_option maxRecDepth 4000 in
set_option maxHeartbeats 800000 in
theorem wi_Expire_1 (p0 : MEntry) (p1 : Int) (r0 : Bool) (h : i_Expire_1 p0 p1 = some r0) : Runs Try.prog 38 [.agg (mEntryV p0), .lptr 1 [[.sc (.int .i64 p1)]] 0 0] [] (.sc (.bool r0)) [] := by
  unfold i_Expire_1 at h
  refine runsR [.tmp 3] Try.func38 rfl rfl rfl rfl ?_
  rw [Try.ntmps38]
  refine tri_seq ?_
  refine tri_region ?_
  refine s_box rfl rfl rfl rfl rfl rfl rfl ?_
  refine s_mv (.inr rfl) (v := .sc (.bool false)) rfl rfl rfl rfl ?_
  refine rt_nil ?_
  refine tri_seq ?_
  refine tri_region ?_
  refine s_fieldAddr rfl rfl fd39_4 rfl rfl rfl rfl ?_
  refine s_load rfl rfl rfl rfl ty3 rfl (.inr rfl) (by conv => lhs; whnf) rfl rfl rfl ?_
  refine s_loadF rfl rfl rfl ty3 rfl (.inr rfl) (by conv => lhs; whnf) rfl rfl rfl ?_
  refine s_of (st_leq rfl rfl rfl) rfl rfl rfl rfl ?_
  refine s_mv (.inr rfl) (by conv => lhs; whnf) rfl rfl rfl ?_
  refine rt_nil ?_
  refine tri_ret ?_
  have e0 := (some1 h); subst e0
  exact endY [] [] (rvC (resTmp rfl) rvN) trivial trivial rfl rfl rfl rfl (.free rfl)

/- impl.Expire -/

set_option maxRecDepth 4000 in
set_option maxHeartbeats 800000 in
theorem wi_Expire (p0 : MCache) (p1 : Int) (r0 : MCache) (h : i_Expire p0 p1 = some r0) : Runs Try.prog 21 [.agg (mCacheV p0), .sc (.int .i64 p1)] [] (.agg [.sc (.int .i64 r0.cap), .own 39 6 (List.map mEntryV r0.l)]) [] := by
  unfold i_Expire at h
  refine runsR [.cell 4 24] Try.func21 rfl rfl rfl rfl ?_
  rw [Try.ntmps21]
  refine tri_seq ?_
  refine tri_region ?_
  refine s_box rfl rfl rfl rfl rfl rfl rfl ?_
  refine s_box rfl rfl rfl rfl rfl rfl rfl ?_
  refine s_alloc rfl rfl rfl zc24 rfl rfl rfl rfl rfl ?_
  refine rt_nil ?_
  refine tri_seq ?_
  refine tri_region ?_
  refine s_loadR rfl rfl rfl rfl ty24 rfl rfl rfl ?_
  refine bnd1_elim h fun x1 q2 h => ?_
  refine s_callZ (kb := []) (ns := []) (v := .agg [.sc (.int .i64 x1.cap), .ref (6, 1) 0 x1.l.length]) rfl rfl cl36 (wi_copyCache p0 x1 q2) rfl (.cons (relAgg rfl) .nil) trivial memNil .nil memNil trivial rfl ⟨(allFree_map mEntryV_free), trivial⟩ memNil rfl (by first | (simp only [V.mat, V.mat1, V.mat0, matL, matT, List.length_map]; done) | (simp only [V.mat, V.mat1, V.mat0, matL, matT, List.length_map]; rfl)) rfl rfl rfl rfl ?_
  refine s_storeB rfl rfl rfl ty24 rfl rfl rfl rfl rfl ?_
  refine rt_nil ?_
  refine tri_seq ?_
  refine tri_region ?_
  refine s_fieldAddr rfl rfl fd24_1 rfl rfl rfl rfl ?_
  refine s_load rfl rfl rfl rfl ty22 rfl (.inr rfl) (by conv => lhs; whnf) rfl rfl rfl ?_
  refine s_makeFunc (caps := [.ptr (3, 0) 0 0]) rfl rfl rfl rfl rfl ?_
  refine bnd2_elim h fun x3 x4 q5 h => ?_
  refine s_callP (kb := [(3, 0)]) (ns := [(6, 1)]) (y := .ref (6, 1) 0 x4.length) rfl rfl cl37 (wslices_DeleteFunc_Entry x1.l 38 ([.lptr 1 [[.sc (.int .i64 p1)]] 0 0]) rfl cl38 (fun a0 => i_Expire_1 a0 p1) (fun a0 v0 hv => wi_Expire_1 a0 p1 v0 hv) x3 x4 q5) rfl (.cons (.refOwn rfl) (.cons (relFnL rfl (.cons (relBoxL rfl (.head _) (.cons (.free rfl) .nil) rfl rfl) .nil)) .nil)) ⟨⟨_, rfl, rfl⟩, trivial⟩ (memCons (freeZ_map mEntryV_free mEntryV_len) memNil) (List.nodup_cons.2 ⟨List.not_mem_nil, .nil⟩) (by decide) ⟨⟨_, rfl, rfl⟩, trivial⟩ (.inn rfl) (memCons (freeZ_map mEntryV_free mEntryV_len) memNil) rfl rfl rfl rfl ?_
  refine s_fieldAddr rfl rfl fd24_1 rfl rfl rfl rfl ?_
  refine s_store (rows' := [[.sc (.int .i64 x1.cap), .ref (6, 1) 0 x4.length]]) rfl rfl rfl rfl ty22 rfl rfl rfl rfl rfl rfl ?_
  refine rt_nil ?_
  refine tri_seq ?_
  refine tri_region ?_
  refine s_loadR rfl rfl rfl rfl ty24 rfl rfl rfl ?_
  refine s_storeB rfl rfl rfl ty24 rfl rfl rfl rfl rfl ?_
  refine rt_nil ?_
  refine tri_ret ?_
  have e0 := (some1 h); subst e0
  exact endY (v' := .agg [.sc (.int .i64 x1.cap), .ref (2000, 1) 0 x4.length]) [((2000, 1), ⟨39, 6, List.map mEntryV x4, false, true⟩, some (6, 1))] [] (rvC (resCell rfl rfl ty24) rvN) ⟨⟨rfl, _, rfl, rfl, rfl, rfl, id, rowsCv_eq rfl (allFree_map mEntryV_free), rowsZ_map mEntryV_len⟩, trivial⟩ trivial rfl rfl (by kernel_rfl) (by first | (simp only [V.mat, V.mat1, V.mat0, matL, matT, List.length_map]; done) | (simp only [V.mat, V.mat1, V.mat0, matL, matT, List.length_map]; rfl)) (CvL.agg (.cons (.free rfl) (.cons (.ref rfl) .nil)))
set_option maxRecDepth 4000 in
set_option maxHeartbeats 800000 in
theorem wRi_Expire (p0 : MCache) (p1 : Int) (r0 : MCache) (h : i_Expire p0 p1 = some r0) : RunsG Try.prog 21 [.agg (mCacheV p0), .sc (.int .i64 p1)] [] (.agg [.sc (.int .i64 r0.cap), .ref (2000, 1) 0 r0.l.length]) ([(1, ⟨39, 6, nr 2000 mEntryN 10000 r0.l, false, true⟩)] ++ famO 10000 (List.map mEntryG r0.l)) [] := by
  unfold i_Expire at h
  refine runsG [.cell 4 24] Try.func21 rfl rfl rfl rfl ?_
  rw [Try.ntmps21]
  refine tri_seq ?_
  refine tri_region ?_
  refine s_box rfl rfl rfl rfl rfl rfl rfl ?_
  refine s_box rfl rfl rfl rfl rfl rfl rfl ?_
  refine s_alloc rfl rfl rfl zc24 rfl rfl rfl rfl rfl ?_
  refine rt_nil ?_
  refine tri_seq ?_
  refine tri_region ?_
  refine s_loadR rfl rfl rfl rfl ty24 rfl rfl rfl ?_
  refine bnd1_elim h fun x1 q2 h => ?_
  refine s_callRt (kb := []) (os' := [(1, ⟨39, 6, nr 6 mEntryN 10000 x1.l, false, true⟩)]) (y := .agg [.sc (.int .i64 x1.cap), .ref (6, 1) 0 x1.l.length]) rfl rfl cl36 (wRi_copyCache p0 x1 q2) rfl (.cons (relAgg rfl) .nil) (.cons (outRows mEntryN_z (fun i x hx => (.cons retSc (.cons retSc (.cons retSc (.cons (.own (owns_at (by rw [List.length_map]; exact (List.getElem?_eq_some_iff.1 hx).1))) (.cons retSc (.cons retSc .nil)))))))) id .nil) (fun x => allSc_map recV_sc) mEntryG_z (RetL.agg (.cons retSc (.cons (.own rfl) .nil))) (fun q E h => by simp only [List.mem_cons, List.not_mem_nil, or_false, Prod.mk.injEq] at h; rcases h with ⟨rfl, -⟩ <;> exact rfl) (fun i => rfl) rfl rfl rfl ?_
  refine s_storeB rfl rfl rfl ty24 rfl rfl rfl rfl rfl ?_
  refine rt_nil ?_
  refine tri_seq ?_
  refine tri_region ?_
  refine s_fieldAddr rfl rfl fd24_1 rfl rfl rfl rfl ?_
  refine s_load rfl rfl rfl rfl ty22 rfl (.inr rfl) (by conv => lhs; whnf) rfl rfl rfl ?_
  refine s_makeFunc (caps := [.ptr (3, 0) 0 0]) rfl rfl rfl rfl rfl ?_
  refine bnd2_elim h fun x3 x4 q5 h => ?_
  refine slices_DeleteFunc_Entry_I_elim q5 fun y3 y4 hy hnd q5n => ?_
  subst hy
  refine s_callQ (A := [_, _, _, _, _]) (R := []) (l := x1.l) (is := (List.finRange x1.l.length)) (qs := y4) (gm := mEntryG) (fN := mEntryN) (dn := (6, 1)) (a := 6) (b := 10000) (s := false) (mi := true) (kb := [(3, 0)]) rfl rfl cl37 (lenW (wIslices_DeleteFunc_Entry x1.l (List.finRange x1.l.length) 38 ([.lptr 1 [[.sc (.int .i64 p1)]] 0 0]) rfl cl38 (fun a0 => i_Expire_1 a0 p1) (fun a0 v0 hv => wi_Expire_1 a0 p1 v0 hv) (fun i => i_Expire_1 (x1.l.get i) p1) (fun i => rfl) y3 y4 q5n)) rfl (.cons (.refOwn rfl) (.cons (relFnL rfl (.cons (relBoxL rfl (.head _) (.cons (.free rfl) .nil) rfl rfl) .nil)) .nil)) rfl fI_all.symm (fun j => rfl) (fun k => rfl) mEntryN_z (fun x hm => (.cons (.free rfl) (.cons (.free rfl) (.cons (.free rfl) (.cons (.refOwn hm) (.cons (.free rfl) (.cons (.free rfl) .nil))))))) (fun x hm => (.cons retSc (.cons retSc (.cons retSc (.cons (.inn hm) (.cons retSc (.cons retSc .nil))))))) (fun x => allSc_map recV_sc) mEntryG_f mEntryG_z (fun m hm => by cases List.mem_singleton.1 hm; exact lits_not (ms := [(6, 1)]) rfl rfl) rfl rfl rfl ?_
  refine s_fieldAddr rfl rfl fd24_1 rfl rfl rfl rfl ?_
  refine s_store (rows' := [[.sc (.int .i64 x1.cap), .ref (6, 1) 0 y4.length]]) rfl rfl rfl rfl ty22 rfl rfl rfl rfl rfl rfl ?_
  refine rt_nil ?_
  refine tri_seq ?_
  refine tri_region ?_
  refine s_loadR rfl rfl rfl rfl ty24 rfl rfl rfl ?_
  refine s_storeB rfl rfl rfl ty24 rfl rfl rfl rfl rfl ?_
  refine rt_nil ?_
  refine tri_ret ?_
  have e0 := (some1 h); subst e0
  exact nest_endQ (g := mEntryG) (l := (y4.map x1.l.get)) [((2000, 1), ⟨39, 6, nr 2000 mEntryN 10000 (y4.map x1.l.get), false, true⟩, some (6, 1))] [(1, ⟨39, 6, nr 2000 mEntryN 10000 (y4.map x1.l.get), false, true⟩)] (y4.map (nmI 6 10000 x1.l)) nmI_snd (rvC (resCell rfl rfl ty24) rvN) ⟨⟨rfl, _, rfl, rfl, rfl, rfl, id, rowsCv_q nmI_snd nmI_rows (fun x h => mEntryN_cv x h), nr_rowsZ mEntryN_z⟩, trivial⟩ rfl (fun p hp => nmOk_fam (fun j y hy => (by repeat (first | exact fam_lk (by rw [List.getElem?_map, hy]; rfl) | refine lkTo rfl ?_))) rfl rfl (nmI_mem hp)) (nmI_nodup hnd) (fun _ => rfl) rfl mEntryG_f mEntryG_z (fun j => (by repeat (first | exact rfl | exact famNo rfl rfl | refine lkNo rfl ?_))) rfl (CvL.agg (.cons (.free rfl) (.cons (cvRefLen rfl (by simp only [List.length_map])) .nil)))

/- laws.eqQuest -/

set_option maxRecDepth 4000 in
set_option maxHeartbeats 800000 in
theorem ww_eqQuest (p0 : Quest) (p1 : Quest) (r0 : Bool) (h : w_eqQuest p0 p1 = some r0) : Runs Try.prog 32 [.agg (questV p0), .agg (questV p1)] [] (.sc (.bool r0)) [] := by
  unfold w_eqQuest at h
  refine runsR [.tmp 4] Try.func32 rfl rfl rfl rfl ?_
  rw [Try.ntmps32]
  refine tri_seq ?_
  refine tri_region ?_
  refine s_box rfl rfl rfl rfl rfl rfl rfl ?_
  refine s_box rfl rfl rfl rfl rfl rfl rfl ?_
  refine s_mv (.inr rfl) (v := .sc (.bool false)) rfl rfl rfl rfl ?_
  refine rt_nil ?_
  refine tri_seq ?_
  refine tri_seq ?_
  refine tri_region ?_
  refine s_fieldAddr rfl rfl fd36_0 rfl rfl rfl rfl ?_
  refine s_load rfl rfl rfl rfl ty9 rfl (.inr rfl) (by conv => lhs; whnf) rfl rfl rfl ?_
  refine s_fieldAddr rfl rfl fd36_0 rfl rfl rfl rfl ?_
  refine s_load rfl rfl rfl rfl ty9 rfl (.inr rfl) (by conv => lhs; whnf) rfl rfl rfl ?_
  refine s_of (st_neS rfl rfl rfl) rfl rfl rfl rfl ?_
  refine rt_nil ?_
  refine tri_cond rfl (fun c1 => ?_) (fun c1 => ?_)
  · replace h := cond_t h c1
    refine tri_seq ?_
    refine tri_region ?_
    refine s_mv (.inr rfl) (v := .sc (.bool false)) rfl rfl rfl rfl ?_
    refine rt_nil ?_
    refine tri_ret ?_
    have e0 := (some1 h); subst e0
    exact endY [] [] (rvC (resTmp rfl) rvN) trivial trivial rfl rfl rfl rfl (.free rfl)
  · replace h := cond_f h c1
    refine tri_skip ?_
    refine tri_seq ?_
    refine tri_seq ?_
    refine tri_region ?_
    refine s_fieldAddr rfl rfl fd36_1 rfl rfl rfl rfl ?_
    refine s_load rfl rfl rfl rfl ty3 rfl (.inr rfl) (by conv => lhs; whnf) rfl rfl rfl ?_
    refine s_fieldAddr rfl rfl fd36_1 rfl rfl rfl rfl ?_
    refine s_load rfl rfl rfl rfl ty3 rfl (.inr rfl) (by conv => lhs; whnf) rfl rfl rfl ?_
    refine s_of (st_neI rfl rfl rfl) rfl rfl rfl rfl ?_
    refine rt_nil ?_
    refine tri_cond rfl (fun c2 => ?_) (fun c2 => ?_)
    · replace h := cond_t h c2
      refine tri_seq ?_
      refine tri_region ?_
      refine s_mv (.inr rfl) (v := .sc (.bool false)) rfl rfl rfl rfl ?_
      refine rt_nil ?_
      refine tri_ret ?_
      have e0 := (some1 h); subst e0
      exact endY [] [] (rvC (resTmp rfl) rvN) trivial trivial rfl rfl rfl rfl (.free rfl)
    · replace h := cond_f h c2
      refine tri_skip ?_
      refine tri_seq ?_
      refine tri_region ?_
      refine s_mv (.inr rfl) (v := .sc (.bool true)) rfl rfl rfl rfl ?_
      refine rt_nil ?_
      refine tri_ret ?_
      have e0 := (some1 h); subst e0
      exact endY [] [] (rvC (resTmp rfl) rvN) trivial trivial rfl rfl rfl rfl (.free rfl)

/- laws.eqRecord -/

set_option maxRecDepth 4000 in
set_option maxHeartbeats 800000 in
theorem ww_eqRecord (p0 : Rec) (p1 : Rec) (r0 : Bool) (h : w_eqRecord p0 p1 = some r0) : Runs Try.prog 44 [.agg (recV p0), .agg (recV p1)] [] (.sc (.bool r0)) [] := by
  unfold w_eqRecord at h
  refine runsR [.tmp 4] Try.func44 rfl rfl rfl rfl ?_
  rw [Try.ntmps44]
  refine tri_seq ?_
  refine tri_region ?_
  refine s_box rfl rfl rfl rfl rfl rfl rfl ?_
  refine s_box rfl rfl rfl rfl rfl rfl rfl ?_
  refine s_mv (.inr rfl) (v := .sc (.bool false)) rfl rfl rfl rfl ?_
  refine rt_nil ?_
  refine tri_seq ?_
  refine tri_seq ?_
  refine tri_region ?_
  refine s_fieldAddr rfl rfl fd70_0 rfl rfl rfl rfl ?_
  refine s_load rfl rfl rfl rfl ty9 rfl (.inr rfl) (by conv => lhs; whnf) rfl rfl rfl ?_
  refine s_fieldAddr rfl rfl fd70_0 rfl rfl rfl rfl ?_
  refine s_load rfl rfl rfl rfl ty9 rfl (.inr rfl) (by conv => lhs; whnf) rfl rfl rfl ?_
  refine s_of (st_neS rfl rfl rfl) rfl rfl rfl rfl ?_
  refine rt_nil ?_
  refine tri_cond rfl (fun c1 => ?_) (fun c1 => ?_)
  · replace h := cond_t h c1
    refine tri_seq ?_
    refine tri_region ?_
    refine s_mv (.inr rfl) (v := .sc (.bool false)) rfl rfl rfl rfl ?_
    refine rt_nil ?_
    refine tri_ret ?_
    have e0 := (some1 h); subst e0
    exact endY [] [] (rvC (resTmp rfl) rvN) trivial trivial rfl rfl rfl rfl (.free rfl)
  · replace h := cond_f h c1
    refine tri_skip ?_
    refine tri_seq ?_
    refine tri_seq ?_
    refine tri_region ?_
    refine s_fieldAddr rfl rfl fd70_1 rfl rfl rfl rfl ?_
    refine s_load rfl rfl rfl rfl ty3 rfl (.inr rfl) (by conv => lhs; whnf) rfl rfl rfl ?_
    refine s_fieldAddr rfl rfl fd70_1 rfl rfl rfl rfl ?_
    refine s_load rfl rfl rfl rfl ty3 rfl (.inr rfl) (by conv => lhs; whnf) rfl rfl rfl ?_
    refine s_of (st_neI rfl rfl rfl) rfl rfl rfl rfl ?_
    refine rt_nil ?_
    refine tri_cond rfl (fun c2 => ?_) (fun c2 => ?_)
    · replace h := cond_t h c2
      refine tri_seq ?_
      refine tri_region ?_
      refine s_mv (.inr rfl) (v := .sc (.bool false)) rfl rfl rfl rfl ?_
      refine rt_nil ?_
      refine tri_ret ?_
      have e0 := (some1 h); subst e0
      exact endY [] [] (rvC (resTmp rfl) rvN) trivial trivial rfl rfl rfl rfl (.free rfl)
    · replace h := cond_f h c2
      refine tri_skip ?_
      refine tri_seq ?_
      refine tri_seq ?_
      refine tri_region ?_
      refine s_fieldAddr rfl rfl fd70_2 rfl rfl rfl rfl ?_
      refine s_load rfl rfl rfl rfl ty3 rfl (.inr rfl) (by conv => lhs; whnf) rfl rfl rfl ?_
      refine s_fieldAddr rfl rfl fd70_2 rfl rfl rfl rfl ?_
      refine s_load rfl rfl rfl rfl ty3 rfl (.inr rfl) (by conv => lhs; whnf) rfl rfl rfl ?_
      refine s_of (st_neI rfl rfl rfl) rfl rfl rfl rfl ?_
      refine rt_nil ?_
      refine tri_cond rfl (fun c3 => ?_) (fun c3 => ?_)
      · replace h := cond_t h c3
        refine tri_seq ?_
        refine tri_region ?_
        refine s_mv (.inr rfl) (v := .sc (.bool false)) rfl rfl rfl rfl ?_
        refine rt_nil ?_
        refine tri_ret ?_
        have e0 := (some1 h); subst e0
        exact endY [] [] (rvC (resTmp rfl) rvN) trivial trivial rfl rfl rfl rfl (.free rfl)
      · replace h := cond_f h c3
        refine tri_skip ?_
        refine tri_seq ?_
        refine tri_seq ?_
        refine tri_region ?_
        refine s_fieldAddr rfl rfl fd70_3 rfl rfl rfl rfl ?_
        refine s_load rfl rfl rfl rfl ty3 rfl (.inr rfl) (by conv => lhs; whnf) rfl rfl rfl ?_
        refine s_fieldAddr rfl rfl fd70_3 rfl rfl rfl rfl ?_
        refine s_load rfl rfl rfl rfl ty3 rfl (.inr rfl) (by conv => lhs; whnf) rfl rfl rfl ?_
        refine s_of (st_neI rfl rfl rfl) rfl rfl rfl rfl ?_
        refine rt_nil ?_
        refine tri_cond rfl (fun c4 => ?_) (fun c4 => ?_)
        · replace h := cond_t h c4
          refine tri_seq ?_
          refine tri_region ?_
          refine s_mv (.inr rfl) (v := .sc (.bool false)) rfl rfl rfl rfl ?_
          refine rt_nil ?_
          refine tri_ret ?_
          have e0 := (some1 h); subst e0
          exact endY [] [] (rvC (resTmp rfl) rvN) trivial trivial rfl rfl rfl rfl (.free rfl)
        · replace h := cond_f h c4
          refine tri_skip ?_
          refine tri_seq ?_
          refine tri_seq ?_
          refine tri_region ?_
          refine s_fieldAddr rfl rfl fd70_4 rfl rfl rfl rfl ?_
          refine s_load rfl rfl rfl rfl ty9 rfl (.inr rfl) (by conv => lhs; whnf) rfl rfl rfl ?_
          refine s_fieldAddr rfl rfl fd70_4 rfl rfl rfl rfl ?_
          refine s_load rfl rfl rfl rfl ty9 rfl (.inr rfl) (by conv => lhs; whnf) rfl rfl rfl ?_
          refine s_of (st_neS rfl rfl rfl) rfl rfl rfl rfl ?_
          refine rt_nil ?_
          refine tri_cond rfl (fun c5 => ?_) (fun c5 => ?_)
          · replace h := cond_t h c5
            refine tri_seq ?_
            refine tri_region ?_
            refine s_mv (.inr rfl) (v := .sc (.bool false)) rfl rfl rfl rfl ?_
            refine rt_nil ?_
            refine tri_ret ?_
            have e0 := (some1 h); subst e0
            exact endY [] [] (rvC (resTmp rfl) rvN) trivial trivial rfl rfl rfl rfl (.free rfl)
          · replace h := cond_f h c5
            refine tri_skip ?_
            refine tri_seq ?_
            refine tri_seq ?_
            refine tri_region ?_
            refine s_fieldAddr rfl rfl fd70_5 rfl rfl rfl rfl ?_
            refine s_load rfl rfl rfl rfl ty9 rfl (.inr rfl) (by conv => lhs; whnf) rfl rfl rfl ?_
            refine s_fieldAddr rfl rfl fd70_5 rfl rfl rfl rfl ?_
            refine s_load rfl rfl rfl rfl ty9 rfl (.inr rfl) (by conv => lhs; whnf) rfl rfl rfl ?_
            refine s_of (st_neS rfl rfl rfl) rfl rfl rfl rfl ?_
            refine rt_nil ?_
            refine tri_cond rfl (fun c6 => ?_) (fun c6 => ?_)
            · replace h := cond_t h c6
              refine tri_seq ?_
              refine tri_region ?_
              refine s_mv (.inr rfl) (v := .sc (.bool false)) rfl rfl rfl rfl ?_
              refine rt_nil ?_
              refine tri_ret ?_
              have e0 := (some1 h); subst e0
              exact endY [] [] (rvC (resTmp rfl) rvN) trivial trivial rfl rfl rfl rfl (.free rfl)
            · replace h := cond_f h c6
              refine tri_skip ?_
              refine tri_seq ?_
              refine tri_region ?_
              refine s_mv (.inr rfl) (v := .sc (.bool true)) rfl rfl rfl rfl ?_
              refine rt_nil ?_
              refine tri_ret ?_
              have e0 := (some1 h); subst e0
              exact endY [] [] (rvC (resTmp rfl) rvN) trivial trivial rfl rfl rfl rfl (.free rfl)

/- laws.eqRecordS -/
def inv_w_eqRecordS_0 (p0 : List Rec) (p1 : List Rec) (v0_0 : Nat) : St := mkT 27 [(0, .lst 6 (List.map recV p0)), (1, .lst 6 (List.map recV p1)), (5, .sc (.int .i64 (v0_0 : Int)))] []
set_option maxRecDepth 4000 in
set_option maxHeartbeats 800000 in
theorem ww_eqRecordS (p0 : List Rec) (p1 : List Rec) (r0 : Bool) (h : w_eqRecordS p0 p1 = some r0) : Runs Try.prog 33 [.lst 6 (List.map recV p0), .lst 6 (List.map recV p1)] [] (.sc (.bool r0)) [] := by
  unfold w_eqRecordS at h
  refine runsR [.tmp 4] Try.func33 rfl rfl rfl rfl ?_
  rw [Try.ntmps33]
  refine tri_seq ?_
  refine tri_region ?_
  refine s_mv (.inr rfl) (v := .sc (.bool false)) rfl rfl rfl rfl ?_
  refine rt_nil ?_
  refine tri_seq ?_
  refine tri_seq ?_
  refine tri_region ?_
  refine s_mv (.inl rfl) (by conv => lhs; whnf) rfl rfl rfl ?_
  refine s_lenL rfl sl37 rfl rfl rfl rfl ?_
  refine s_mv (.inl rfl) (by conv => lhs; whnf) rfl rfl rfl ?_
  refine s_lenL rfl sl37 rfl rfl rfl rfl ?_
  refine s_of (st_neI rfl rfl rfl) rfl rfl rfl rfl ?_
  refine rt_nil ?_
  refine tri_cond rfl (fun c1 => ?_) (fun c1 => ?_)
  · replace h := cond_t h c1
    refine tri_seq ?_
    refine tri_region ?_
    refine s_mv (.inr rfl) (v := .sc (.bool false)) rfl rfl rfl rfl ?_
    refine rt_nil ?_
    refine tri_ret ?_
    have e0 := (some1 h); subst e0
    exact endY [] [] (rvC (resTmp rfl) rvN) trivial trivial rfl rfl rfl rfl (.free rfl)
  · replace h := cond_f h c1
    refine tri_skip ?_
    refine tri_seq ?_
    refine tri_seq ?_
    refine tri_region ?_
    refine s_mv (.inr rfl) (v := .sc (.int .i64 0)) rfl rfl rfl rfl ?_
    refine rt_nil ?_
    refine tri_block ?_
    refine tri_lstM 0 rfl (fun hl0 => ?_)
    refine tri_loop (ι := { p : (List Rec) × Nat // p0.drop p.2 = p.1 ∧ w_eqRecordS_l0 p1 p.1 p.2 = some r0 }) (fun p => inv_w_eqRecordS_0 p0 p1 p.1.2) (fun p => p.1.1.length) ⟨(p0, 0), rfl, h⟩ ?_ ?_
    · skip
      refine entX [] [] trivial trivial rfl rfl ?_
      exact ⟨(.free rfl), (.free rfl), (.free rfl), trivial⟩
    · rintro ⟨⟨lrs0, v0_0⟩, hd0, h⟩
      replace hd0 : p0.drop v0_0 = lrs0 := hd0
      replace h : w_eqRecordS_l0 p1 lrs0 v0_0 = some r0 := h
      show Tri _ _ _ (inv_w_eqRecordS_0 p0 p1 v0_0)
      refine tri_seq ?_
      refine tri_seq ?_
      refine tri_region ?_
      refine s_mv (.inl rfl) (by conv => lhs; whnf) rfl rfl rfl ?_
      refine s_mv (.inl rfl) (by conv => lhs; whnf) rfl rfl rfl ?_
      refine s_lenL rfl sl37 rfl rfl rfl rfl ?_
      refine s_of (st_lss rfl rfl rfl) rfl rfl rfl rfl ?_
      refine rt_nil ?_
      refine tri_cond rfl (fun c2 => ?_) (fun c2 => ?_)
      · refine drop_elim hd0 c2 fun e0 rs0 he hx0 hn0 => ?_
        subst he
        rw [w_eqRecordS_l0] at h
        refine tri_skip ?_
        refine tri_seq ?_
        refine tri_block ?_
        refine tri_seq ?_
        refine tri_draw mixed ?_
        refine s_mv (.inl rfl) (by conv => lhs; whnf) rfl rfl rfl ?_
        refine s_mv (.inl rfl) (by conv => lhs; whnf) rfl rfl rfl ?_
        refine s_indexF (i := v0_0) rfl rfl rfl sl37 (get_ltM hx0) rfl rfl rfl ?_
        refine s_loadFR rfl rfl (rowG hx0) ty70 rfl rfl rfl ?_
        refine s_mv (.inl rfl) (by conv => lhs; whnf) rfl rfl rfl ?_
        refine s_mv (.inl rfl) (by conv => lhs; whnf) rfl rfl rfl ?_
        refine bnd1_elim h fun x3 q4 h => ?_
        have q4a := (idx_some q4).1; have q4b := (idx_some q4).2
        refine s_indexFZ rfl rfl rfl sl37 q4a (get_ltM q4b) rfl rfl rfl ?_
        refine s_loadFR rfl rfl (rowG q4b) ty70 rfl rfl rfl ?_
        refine bnd1_elim h fun x5 q6 h => ?_
        refine s_callN (kb := []) (ns := []) (v := .sc (.bool x5)) rfl rfl cl44 (ww_eqRecord e0 x3 x5 q6) rfl (.cons (relAgg rfl) (.cons (relAgg rfl) .nil)) trivial memNil .nil memNil rfl trivial memNil rfl rfl rfl rfl rfl rfl ?_
        refine s_of (st_not rfl rfl) rfl rfl rfl rfl ?_
        refine rt_nil ⟨by kernel_rfl, ?_⟩
        refine tri_cond rfl (fun c7 => ?_) (fun c7 => ?_)
        · replace h := cond_t h c7
          refine tri_seq ?_
          refine tri_region ?_
          refine s_mv (.inr rfl) (v := .sc (.bool false)) rfl rfl rfl rfl ?_
          refine rt_nil ?_
          refine tri_ret ?_
          have e0 := (some1 h); subst e0
          exact endY [] [] (rvC (resTmp rfl) rvN) trivial trivial rfl rfl rfl rfl (.free rfl)
        · replace h := cond_f h c7
          refine tri_skip ?_
          refine tri_region ?_
          refine s_mv (.inl rfl) (by conv => lhs; whnf) rfl rfl rfl ?_
          refine s_inc (a := v0_0) (b := 1) rfl rfl rfl rfl (by have := get_lt hx0; have := hl0; omega) rfl rfl rfl ?_
          refine s_mv (.inr rfl) (by conv => lhs; whnf) rfl rfl rfl ?_
          refine rt_nil ?_
          refine Exists.intro ⟨(rs0, (v0_0 + 1)), hn0, h⟩ (And.intro (Nat.lt_succ_self _) ?_)
          refine entX [] [] trivial trivial rfl rfl ?_
          exact ⟨(.free rfl), (.free rfl), (.free rfl), trivial⟩
      · have he := drop_f hd0 c2; subst he
        rw [w_eqRecordS_l0] at h
        refine tri_exit ?_
        refine tri_seq ?_
        refine tri_region ?_
        refine s_mv (.inr rfl) (v := .sc (.bool true)) rfl rfl rfl rfl ?_
        refine rt_nil ?_
        refine tri_ret ?_
        have e0 := (some1 h); subst e0
        exact endY [] [] (rvC (resTmp rfl) rvN) trivial trivial rfl rfl rfl rfl (.free rfl)

/- laws.eqEntry -/

set_option maxRecDepth 4000 in
set_option maxHeartbeats 800000 in
theorem ww_eqEntry (p0 : MEntry) (p1 : MEntry) (r0 : Bool) (h : w_eqEntry p0 p1 = some r0) : Runs Try.prog 17 [.agg (mEntryV p0), .agg (mEntryV p1)] [] (.sc (.bool r0)) [] := by
  unfold w_eqEntry at h
  refine runsR [.tmp 4] Try.func17 rfl rfl rfl rfl ?_
  rw [Try.ntmps17]
  refine tri_seq ?_
  refine tri_region ?_
  refine s_box rfl rfl rfl rfl rfl rfl rfl ?_
  refine s_box rfl rfl rfl rfl rfl rfl rfl ?_
  refine s_mv (.inr rfl) (v := .sc (.bool false)) rfl rfl rfl rfl ?_
  refine rt_nil ?_
  refine tri_seq ?_
  refine tri_seq ?_
  refine tri_region ?_
  refine s_fieldAddr rfl rfl fd39_0 rfl rfl rfl rfl ?_
  refine s_load (v := .agg (questV p0.q)) rfl rfl rfl rfl ty36 rfl (.inl rfl) rfl rfl rfl rfl ?_
  refine s_fieldAddr rfl rfl fd39_0 rfl rfl rfl rfl ?_
  refine s_load (v := .agg (questV p1.q)) rfl rfl rfl rfl ty36 rfl (.inl rfl) rfl rfl rfl rfl ?_
  refine bnd1_elim h fun x1 q2 h => ?_
  refine s_callN (kb := []) (ns := []) (v := .sc (.bool x1)) rfl rfl cl32 (ww_eqQuest p0.q p1.q x1 q2) rfl (.cons (relAgg rfl) (.cons (relAgg rfl) .nil)) trivial memNil .nil memNil rfl trivial memNil rfl rfl rfl rfl rfl rfl ?_
  refine s_of (st_not rfl rfl) rfl rfl rfl rfl ?_
  refine rt_nil ?_
  refine tri_cond rfl (fun c3 => ?_) (fun c3 => ?_)
  · replace h := cond_t h c3
    refine tri_seq ?_
    refine tri_region ?_
    refine s_mv (.inr rfl) (v := .sc (.bool false)) rfl rfl rfl rfl ?_
    refine rt_nil ?_
    refine tri_ret ?_
    have e0 := (some1 h); subst e0
    exact endY [] [] (rvC (resTmp rfl) rvN) trivial trivial rfl rfl rfl rfl (.free rfl)
  · replace h := cond_f h c3
    refine tri_skip ?_
    refine tri_seq ?_
    refine tri_seq ?_
    refine tri_region ?_
    refine s_fieldAddr rfl rfl fd39_1 rfl rfl rfl rfl ?_
    refine s_load rfl rfl rfl rfl ty3 rfl (.inr rfl) (by conv => lhs; whnf) rfl rfl rfl ?_
    refine s_fieldAddr rfl rfl fd39_1 rfl rfl rfl rfl ?_
    refine s_load rfl rfl rfl rfl ty3 rfl (.inr rfl) (by conv => lhs; whnf) rfl rfl rfl ?_
    refine s_of (st_neI rfl rfl rfl) rfl rfl rfl rfl ?_
    refine rt_nil ?_
    refine tri_cond rfl (fun c4 => ?_) (fun c4 => ?_)
    · replace h := cond_t h c4
      refine tri_seq ?_
      refine tri_region ?_
      refine s_mv (.inr rfl) (v := .sc (.bool false)) rfl rfl rfl rfl ?_
      refine rt_nil ?_
      refine tri_ret ?_
      have e0 := (some1 h); subst e0
      exact endY [] [] (rvC (resTmp rfl) rvN) trivial trivial rfl rfl rfl rfl (.free rfl)
    · replace h := cond_f h c4
      refine tri_skip ?_
      refine tri_seq ?_
      refine tri_seq ?_
      refine tri_region ?_
      refine s_fieldAddr rfl rfl fd39_2 rfl rfl rfl rfl ?_
      refine s_load rfl rfl rfl rfl ty37 rfl (.inr rfl) (by conv => lhs; whnf) rfl rfl rfl ?_
      refine s_fieldAddr rfl rfl fd39_2 rfl rfl rfl rfl ?_
      refine s_load rfl rfl rfl rfl ty37 rfl (.inr rfl) (by conv => lhs; whnf) rfl rfl rfl ?_
      refine bnd1_elim h fun x5 q6 h => ?_
      refine s_callN (kb := []) (ns := []) (v := .sc (.bool x5)) rfl rfl cl33 (ww_eqRecordS p0.l p1.l x5 q6) rfl (.cons (.free rfl) (.cons (.free rfl) .nil)) trivial memNil .nil memNil rfl trivial memNil rfl rfl rfl rfl rfl rfl ?_
      refine s_of (st_not rfl rfl) rfl rfl rfl rfl ?_
      refine rt_nil ?_
      refine tri_cond rfl (fun c7 => ?_) (fun c7 => ?_)
      · replace h := cond_t h c7
        refine tri_seq ?_
        refine tri_region ?_
        refine s_mv (.inr rfl) (v := .sc (.bool false)) rfl rfl rfl rfl ?_
        refine rt_nil ?_
        refine tri_ret ?_
        have e0 := (some1 h); subst e0
        exact endY [] [] (rvC (resTmp rfl) rvN) trivial trivial rfl rfl rfl rfl (.free rfl)
      · replace h := cond_f h c7
        refine tri_skip ?_
        refine tri_seq ?_
        refine tri_seq ?_
        refine tri_region ?_
        refine s_fieldAddr rfl rfl fd39_3 rfl rfl rfl rfl ?_
        refine s_load rfl rfl rfl rfl ty3 rfl (.inr rfl) (by conv => lhs; whnf) rfl rfl rfl ?_
        refine s_fieldAddr rfl rfl fd39_3 rfl rfl rfl rfl ?_
        refine s_load rfl rfl rfl rfl ty3 rfl (.inr rfl) (by conv => lhs; whnf) rfl rfl rfl ?_
        refine s_of (st_neI rfl rfl rfl) rfl rfl rfl rfl ?_
        refine rt_nil ?_
        refine tri_cond rfl (fun c8 => ?_) (fun c8 => ?_)
        · replace h := cond_t h c8
          refine tri_seq ?_
          refine tri_region ?_
          refine s_mv (.inr rfl) (v := .sc (.bool false)) rfl rfl rfl rfl ?_
          refine rt_nil ?_
          refine tri_ret ?_
          have e0 := (some1 h); subst e0
          exact endY [] [] (rvC (resTmp rfl) rvN) trivial trivial rfl rfl rfl rfl (.free rfl)
        · replace h := cond_f h c8
          refine tri_skip ?_
          refine tri_seq ?_
          refine tri_seq ?_
          refine tri_region ?_
          refine s_fieldAddr rfl rfl fd39_4 rfl rfl rfl rfl ?_
          refine s_load rfl rfl rfl rfl ty3 rfl (.inr rfl) (by conv => lhs; whnf) rfl rfl rfl ?_
          refine s_fieldAddr rfl rfl fd39_4 rfl rfl rfl rfl ?_
          refine s_load rfl rfl rfl rfl ty3 rfl (.inr rfl) (by conv => lhs; whnf) rfl rfl rfl ?_
          refine s_of (st_neI rfl rfl rfl) rfl rfl rfl rfl ?_
          refine rt_nil ?_
          refine tri_cond rfl (fun c9 => ?_) (fun c9 => ?_)
          · replace h := cond_t h c9
            refine tri_seq ?_
            refine tri_region ?_
            refine s_mv (.inr rfl) (v := .sc (.bool false)) rfl rfl rfl rfl ?_
            refine rt_nil ?_
            refine tri_ret ?_
            have e0 := (some1 h); subst e0
            exact endY [] [] (rvC (resTmp rfl) rvN) trivial trivial rfl rfl rfl rfl (.free rfl)
          · replace h := cond_f h c9
            refine tri_skip ?_
            refine tri_seq ?_
            refine tri_region ?_
            refine s_mv (.inr rfl) (v := .sc (.bool true)) rfl rfl rfl rfl ?_
            refine rt_nil ?_
            refine tri_ret ?_
            have e0 := (some1 h); subst e0
            exact endY [] [] (rvC (resTmp rfl) rvN) trivial trivial rfl rfl rfl rfl (.free rfl)

/- laws.eqEntryS -/
def inv_w_eqEntryS_0 (p0 : List MEntry) (p1 : List MEntry) (v0_0 : Nat) : St := mkT 27 [(0, .lst 6 (List.map mEntryV p0)), (1, .lst 6 (List.map mEntryV p1)), (5, .sc (.int .i64 (v0_0 : Int)))] []
set_option maxRecDepth 4000 in
set_option maxHeartbeats 800000 in
theorem ww_eqEntryS (p0 : List MEntry) (p1 : List MEntry) (r0 : Bool) (h : w_eqEntryS p0 p1 = some r0) : Runs Try.prog 23 [.lst 6 (List.map mEntryV p0), .lst 6 (List.map mEntryV p1)] [] (.sc (.bool r0)) [] := by
  unfold w_eqEntryS at h
  refine runsR [.tmp 4] Try.func23 rfl rfl rfl rfl ?_
  rw [Try.ntmps23]
  refine tri_seq ?_
  refine tri_region ?_
  refine s_mv (.inr rfl) (v := .sc (.bool false)) rfl rfl rfl rfl ?_
  refine rt_nil ?_
  refine tri_seq ?_
  refine tri_seq ?_
  refine tri_region ?_
  refine s_mv (.inl rfl) (by conv => lhs; whnf) rfl rfl rfl ?_
  refine s_lenL rfl sl22 rfl rfl rfl rfl ?_
  refine s_mv (.inl rfl) (by conv => lhs; whnf) rfl rfl rfl ?_
  refine s_lenL rfl sl22 rfl rfl rfl rfl ?_
  refine s_of (st_neI rfl rfl rfl) rfl rfl rfl rfl ?_
  refine rt_nil ?_
  refine tri_cond rfl (fun c1 => ?_) (fun c1 => ?_)
  · replace h := cond_t h c1
    refine tri_seq ?_
    refine tri_region ?_
    refine s_mv (.inr rfl) (v := .sc (.bool false)) rfl rfl rfl rfl ?_
    refine rt_nil ?_
    refine tri_ret ?_
    have e0 := (some1 h); subst e0
    exact endY [] [] (rvC (resTmp rfl) rvN) trivial trivial rfl rfl rfl rfl (.free rfl)
  · replace h := cond_f h c1
    refine tri_skip ?_
    refine tri_seq ?_
    refine tri_seq ?_
    refine tri_region ?_
    refine s_mv (.inr rfl) (v := .sc (.int .i64 0)) rfl rfl rfl rfl ?_
    refine rt_nil ?_
    refine tri_block ?_
    refine tri_lstM 0 rfl (fun hl0 => ?_)
    refine tri_loop (ι := { p : (List MEntry) × Nat // p0.drop p.2 = p.1 ∧ w_eqEntryS_l0 p1 p.1 p.2 = some r0 }) (fun p => inv_w_eqEntryS_0 p0 p1 p.1.2) (fun p => p.1.1.length) ⟨(p0, 0), rfl, h⟩ ?_ ?_
    · skip
      refine entX [] [] trivial trivial rfl rfl ?_
      exact ⟨(.free rfl), (.free rfl), (.free rfl), trivial⟩
    · rintro ⟨⟨lrs0, v0_0⟩, hd0, h⟩
      replace hd0 : p0.drop v0_0 = lrs0 := hd0
      replace h : w_eqEntryS_l0 p1 lrs0 v0_0 = some r0 := h
      show Tri _ _ _ (inv_w_eqEntryS_0 p0 p1 v0_0)
      refine tri_seq ?_
      refine tri_seq ?_
      refine tri_region ?_
      refine s_mv (.inl rfl) (by conv => lhs; whnf) rfl rfl rfl ?_
      refine s_mv (.inl rfl) (by conv => lhs; whnf) rfl rfl rfl ?_
      refine s_lenL rfl sl22 rfl rfl rfl rfl ?_
      refine s_of (st_lss rfl rfl rfl) rfl rfl rfl rfl ?_
      refine rt_nil ?_
      refine tri_cond rfl (fun c2 => ?_) (fun c2 => ?_)
      · refine drop_elim hd0 c2 fun e0 rs0 he hx0 hn0 => ?_
        subst he
        rw [w_eqEntryS_l0] at h
        refine tri_skip ?_
        refine tri_seq ?_
        refine tri_block ?_
        refine tri_seq ?_
        refine tri_draw mixed ?_
        refine s_mv (.inl rfl) (by conv => lhs; whnf) rfl rfl rfl ?_
        refine s_mv (.inl rfl) (by conv => lhs; whnf) rfl rfl rfl ?_
        refine s_indexF (i := v0_0) rfl rfl rfl sl22 (get_ltM hx0) rfl rfl rfl ?_
        refine s_loadFR rfl rfl (rowG hx0) ty39 rfl rfl rfl ?_
        refine s_mv (.inl rfl) (by conv => lhs; whnf) rfl rfl rfl ?_
        refine s_mv (.inl rfl) (by conv => lhs; whnf) rfl rfl rfl ?_
        refine bnd1_elim h fun x3 q4 h => ?_
        have q4a := (idx_some q4).1; have q4b := (idx_some q4).2
        refine s_indexFZ rfl rfl rfl sl22 q4a (get_ltM q4b) rfl rfl rfl ?_
        refine s_loadFR rfl rfl (rowG q4b) ty39 rfl rfl rfl ?_
        refine bnd1_elim h fun x5 q6 h => ?_
        refine s_callN (kb := []) (ns := []) (v := .sc (.bool x5)) rfl rfl cl17 (ww_eqEntry e0 x3 x5 q6) rfl (.cons (relAgg rfl) (.cons (relAgg rfl) .nil)) trivial memNil .nil memNil rfl trivial memNil rfl rfl rfl rfl rfl rfl ?_
        refine s_of (st_not rfl rfl) rfl rfl rfl rfl ?_
        refine rt_nil ⟨by kernel_rfl, ?_⟩
        refine tri_cond rfl (fun c7 => ?_) (fun c7 => ?_)
        · replace h := cond_t h c7
          refine tri_seq ?_
          refine tri_region ?_
          refine s_mv (.inr rfl) (v := .sc (.bool false)) rfl rfl rfl rfl ?_
          refine rt_nil ?_
          refine tri_ret ?_
          have e0 := (some1 h); subst e0
          exact endY [] [] (rvC (resTmp rfl) rvN) trivial trivial rfl rfl rfl rfl (.free rfl)
        · replace h := cond_f h c7
          refine tri_skip ?_
          refine tri_region ?_
          refine s_mv (.inl rfl) (by conv => lhs; whnf) rfl rfl rfl ?_
          refine s_inc (a := v0_0) (b := 1) rfl rfl rfl rfl (by have := get_lt hx0; have := hl0; omega) rfl rfl rfl ?_
          refine s_mv (.inr rfl) (by conv => lhs; whnf) rfl rfl rfl ?_
          refine rt_nil ?_
          refine Exists.intro ⟨(rs0, (v0_0 + 1)), hn0, h⟩ (And.intro (Nat.lt_succ_self _) ?_)
          refine entX [] [] trivial trivial rfl rfl ?_
          exact ⟨(.free rfl), (.free rfl), (.free rfl), trivial⟩
      · have he := drop_f hd0 c2; subst he
        rw [w_eqEntryS_l0] at h
        refine tri_exit ?_
        refine tri_seq ?_
        refine tri_region ?_
        refine s_mv (.inr rfl) (v := .sc (.bool true)) rfl rfl rfl rfl ?_
        refine rt_nil ?_
        refine tri_ret ?_
        have e0 := (some1 h); subst e0
        exact endY [] [] (rvC (resTmp rfl) rvN) trivial trivial rfl rfl rfl rfl (.free rfl)

/- laws.eqCache -/

set_option maxRecDepth 4000 in
set_option maxHeartbeats 800000 in
theorem ww_eqCache (p0 : MCache) (p1 : MCache) (r0 : Bool) (h : w_eqCache p0 p1 = some r0) : Runs Try.prog 8 [.agg (mCacheV p0), .agg (mCacheV p1)] [] (.sc (.bool r0)) [] := by
  unfold w_eqCache at h
  refine runsR [.tmp 4] Try.func8 rfl rfl rfl rfl ?_
  rw [Try.ntmps8]
  refine tri_seq ?_
  refine tri_region ?_
  refine s_box rfl rfl rfl rfl rfl rfl rfl ?_
  refine s_box rfl rfl rfl rfl rfl rfl rfl ?_
  refine s_mv (.inr rfl) (v := .sc (.bool false)) rfl rfl rfl rfl ?_
  refine rt_nil ?_
  refine tri_seq ?_
  refine tri_seq ?_
  refine tri_region ?_
  refine s_fieldAddr rfl rfl fd24_0 rfl rfl rfl rfl ?_
  refine s_load rfl rfl rfl rfl ty3 rfl (.inr rfl) (by conv => lhs; whnf) rfl rfl rfl ?_
  refine s_fieldAddr rfl rfl fd24_0 rfl rfl rfl rfl ?_
  refine s_load rfl rfl rfl rfl ty3 rfl (.inr rfl) (by conv => lhs; whnf) rfl rfl rfl ?_
  refine s_of (st_neI rfl rfl rfl) rfl rfl rfl rfl ?_
  refine rt_nil ?_
  refine tri_cond rfl (fun c1 => ?_) (fun c1 => ?_)
  · replace h := cond_t h c1
    refine tri_seq ?_
    refine tri_region ?_
    refine s_mv (.inr rfl) (v := .sc (.bool false)) rfl rfl rfl rfl ?_
    refine rt_nil ?_
    refine tri_ret ?_
    have e0 := (some1 h); subst e0
    exact endY [] [] (rvC (resTmp rfl) rvN) trivial trivial rfl rfl rfl rfl (.free rfl)
  · replace h := cond_f h c1
    refine tri_skip ?_
    refine tri_seq ?_
    refine tri_seq ?_
    refine tri_region ?_
    refine s_fieldAddr rfl rfl fd24_1 rfl rfl rfl rfl ?_
    refine s_load rfl rfl rfl rfl ty22 rfl (.inr rfl) (by conv => lhs; whnf) rfl rfl rfl ?_
    refine s_fieldAddr rfl rfl fd24_1 rfl rfl rfl rfl ?_
    refine s_load rfl rfl rfl rfl ty22 rfl (.inr rfl) (by conv => lhs; whnf) rfl rfl rfl ?_
    refine bnd1_elim h fun x2 q3 h => ?_
    refine s_callN (kb := []) (ns := []) (v := .sc (.bool x2)) rfl rfl cl23 (ww_eqEntryS p0.l p1.l x2 q3) rfl (.cons (.free rfl) (.cons (.free rfl) .nil)) trivial memNil .nil memNil rfl trivial memNil rfl rfl rfl rfl rfl rfl ?_
    refine s_of (st_not rfl rfl) rfl rfl rfl rfl ?_
    refine rt_nil ?_
    refine tri_cond rfl (fun c4 => ?_) (fun c4 => ?_)
    · replace h := cond_t h c4
      refine tri_seq ?_
      refine tri_region ?_
      refine s_mv (.inr rfl) (v := .sc (.bool false)) rfl rfl rfl rfl ?_
      refine rt_nil ?_
      refine tri_ret ?_
      have e0 := (some1 h); subst e0
      exact endY [] [] (rvC (resTmp rfl) rvN) trivial trivial rfl rfl rfl rfl (.free rfl)
    · replace h := cond_f h c4
      refine tri_skip ?_
      refine tri_seq ?_
      refine tri_region ?_
      refine s_mv (.inr rfl) (v := .sc (.bool true)) rfl rfl rfl rfl ?_
      refine rt_nil ?_
      refine tri_ret ?_
      have e0 := (some1 h); subst e0
      exact endY [] [] (rvC (resTmp rfl) rvN) trivial trivial rfl rfl rfl rfl (.free rfl)

/- laws.markText -/
def inv_w_markText_0  (v0_0 : Int) (v0_1 : ByteArray) : St := mkT 20 [(0, .sc (.int .i64 v0_0)), (3, .sc (.string v0_1))] []
set_option maxRecDepth 4000 in
set_option maxHeartbeats 800000 in
theorem ww_markText (p0 : Int) (r0 : ByteArray) (h : w_markText p0 = some r0) : Runs Try.prog 39 [.sc (.int .i64 p0)] [] (.sc (.string r0)) [] := by
  unfold w_markText at h
  refine runsR [.tmp 2] Try.func39 rfl rfl rfl rfl ?_
  rw [Try.ntmps39]
  refine tri_seq ?_
  refine tri_region ?_
  refine s_mv (.inr rfl) (v := .sc (.string (⟨#[]⟩ : ByteArray))) rfl rfl rfl rfl ?_
  refine rt_nil ?_
  refine tri_seq ?_
  refine tri_seq ?_
  refine tri_region ?_
  refine s_mv (.inl rfl) (by conv => lhs; whnf) rfl rfl rfl ?_
  refine s_of (st_leq rfl rfl rfl) rfl rfl rfl rfl ?_
  refine rt_nil ?_
  refine tri_cond rfl (fun c1 => ?_) (fun c1 => ?_)
  · replace h := cond_t h c1
    refine tri_seq ?_
    refine tri_region ?_
    refine s_mv (.inr rfl) (v := .sc (.string (⟨#[109, 48]⟩ : ByteArray))) rfl rfl rfl rfl ?_
    refine rt_nil ?_
    refine tri_ret ?_
    have e0 := (some1 h); subst e0
    exact endY [] [] (rvC (resTmp rfl) rvN) trivial trivial rfl rfl rfl rfl (.free rfl)
  · replace h := cond_f h c1
    refine tri_skip ?_
    refine tri_seq ?_
    refine tri_region ?_
    refine s_mv (.inr rfl) (v := .sc (.string (⟨#[]⟩ : ByteArray))) rfl rfl rfl rfl ?_
    refine rt_nil ?_
    refine tri_seq ?_
    refine tri_block ?_
    refine tri_loop (ι := { p : Nat × Int × ByteArray // w_markText_l0 p.1 p.2.1 p.2.2 = some r0 }) (fun p => inv_w_markText_0 p.1.2.1 p.1.2.2) (fun p => p.1.1) ⟨(fuel0, p0, (⟨#[]⟩ : ByteArray)), h⟩ ?_ ?_
    · skip
      refine entX [] [] trivial trivial rfl rfl ?_
      exact ⟨(.free rfl), (.free rfl), trivial⟩
    · rintro ⟨⟨f0, v0_0, v0_1⟩, h⟩
      replace h : w_markText_l0 f0 v0_0 v0_1 = some r0 := h
      cases f0 with
      | zero => cases h
      | succ f0 =>
      rw [w_markText_l0] at h
      show Tri _ _ _ (inv_w_markText_0 v0_0 v0_1)
      refine tri_seq ?_
      refine tri_seq ?_
      refine tri_region ?_
      refine s_mv (.inl rfl) (by conv => lhs; whnf) rfl rfl rfl ?_
      refine s_of (st_gtr rfl rfl rfl) rfl rfl rfl rfl ?_
      refine rt_nil ?_
      refine tri_cond rfl (fun c2 => ?_) (fun c2 => ?_)
      · replace h := cond_t h c2
        refine tri_skip ?_
        refine tri_block ?_
        refine tri_seq ?_
        refine tri_region ?_
        refine s_mv (.inl rfl) (by conv => lhs; whnf) rfl rfl rfl ?_
        refine s_of (st_rem rfl rfl rfl (by decide)) rfl rfl rfl rfl ?_
        refine grd_elim h fun g3 h => ?_
        refine s_addI rfl rfl rfl rfl g3 rfl rfl rfl ?_
        refine s_of (st_conv ik3 ik5 rfl rfl) rfl rfl rfl rfl ?_
        refine s_buildSlice (rows' := List.map byteV [IntKind.u8.wrap (48 + (Int.tmod v0_0 10))]) rfl rfl rfl sl74 zc5 rfl rfl rfl rfl rfl rfl rfl rfl rfl ?_
        refine s_toString rfl (src_refL rfl rfl) byt74 iss9 rfl rfl rfl rfl ?_
        refine s_mv (.inl rfl) (by conv => lhs; whnf) rfl rfl rfl ?_
        refine grd_elim h fun g4 h => ?_
        refine s_of (st_catS g4 rfl rfl rfl) rfl rfl rfl rfl ?_
        refine s_mv (.inr rfl) (by conv => lhs; whnf) rfl rfl rfl ?_
        refine rt_nil ?_
        refine tri_region ?_
        refine s_mv (.inl rfl) (by conv => lhs; whnf) rfl rfl rfl ?_
        refine s_of (st_quo rfl rfl rfl (by decide)) rfl rfl rfl rfl ?_
        refine s_mv (.inr rfl) (by conv => lhs; whnf) rfl rfl rfl ?_
        refine rt_nil ?_
        refine Exists.intro ⟨(f0, IntKind.i64.wrap (Int.tdiv v0_0 10), (strOfNums [IntKind.u8.wrap (48 + (Int.tmod v0_0 10))]) ++ v0_1), h⟩ (And.intro (Nat.lt_succ_self _) ?_)
        refine entX [] [] trivial trivial rfl rfl ?_
        exact ⟨(.free rfl), (.free rfl), trivial⟩
      · replace h := cond_f h c2
        refine tri_exit ?_
        refine tri_seq ?_
        refine tri_region ?_
        refine s_mv (.inl rfl) (by conv => lhs; whnf) rfl rfl rfl ?_
        refine grd_elim h fun g5 h => ?_
        refine s_of (st_catS g5 rfl rfl rfl) rfl rfl rfl rfl ?_
        refine s_mv (.inr rfl) (by conv => lhs; whnf) rfl rfl rfl ?_
        refine rt_nil ?_
        refine tri_ret ?_
        have e0 := (some1 h); subst e0
        exact endY [] [] (rvC (resTmp rfl) rvN) trivial trivial rfl rfl rfl rfl (.free rfl)

/- laws.markRecordS -/
def inv_w_markRecordS_0  (v0_0 : List Rec) (v0_1 : Int) (v0_2 : Int) : St := mkT 58 [(0, .ref (1000, 0) 0 v0_0.length), (1, .sc (.int .i64 v0_1)), (5, .sc (.int .i64 v0_2))] [((1000, 0), some ⟨70, 6, List.map recV v0_0, false, false⟩)]
set_option maxRecDepth 4000 in
set_option maxHeartbeats 800000 in
theorem ww_markRecordS (p0 : List Rec) (p1 : Int) (r0 : Int) (r1 : List Rec) (h : w_markRecordS p0 p1 = some (r0, r1)) : Runs Try.prog 34 [.ref (1000, 0) 0 p0.length, .sc (.int .i64 p1)] [⟨70, 6, List.map recV p0, false, false⟩] (.sc (.int .i64 r0)) [⟨70, 6, List.map recV r1, false, false⟩] := by
  unfold w_markRecordS at h
  refine runsR [.tmp 4] Try.func34 rfl rfl rfl rfl ?_
  rw [Try.ntmps34]
  refine tri_seq ?_
  refine tri_region ?_
  refine s_mv (.inr rfl) (v := .sc (.int .i64 0)) rfl rfl rfl rfl ?_
  refine rt_nil ?_
  refine tri_seq ?_
  refine tri_seq ?_
  refine tri_region ?_
  refine s_mv (.inr rfl) (v := .sc (.int .i64 0)) rfl rfl rfl rfl ?_
  refine rt_nil ?_
  refine tri_block ?_
  refine tri_loop (ι := { p : Nat × (List Rec) × Int × Int // w_markRecordS_l0 p.1 p.2.1 p.2.2.1 p.2.2.2 = some (r0, r1) }) (fun p => inv_w_markRecordS_0 p.1.2.1 p.1.2.2.1 p.1.2.2.2) (fun p => p.1.1) ⟨(fuel0, p0, p1, 0), h⟩ ?_ ?_
  · skip
    refine entX [((1000, 0), ⟨70, 6, List.map recV p0, false, false⟩, some (1000, 0))] [] ⟨⟨rfl, _, rfl, rfl, rfl, rfl, id, rowsCv_eq rfl (allFree_map recV_free), rowsZ_map recV_len⟩, trivial⟩ trivial rfl rfl ?_
    exact ⟨(.ref rfl), (.free rfl), (.free rfl), trivial⟩
  · rintro ⟨⟨f0, v0_0, v0_1, v0_2⟩, h⟩
    replace h : w_markRecordS_l0 f0 v0_0 v0_1 v0_2 = some (r0, r1) := h
    cases f0 with
    | zero => cases h
    | succ f0 =>
    rw [w_markRecordS_l0] at h
    show Tri _ _ _ (inv_w_markRecordS_0 v0_0 v0_1 v0_2)
    refine tri_seq ?_
    refine tri_seq ?_
    refine tri_region ?_
    refine s_mv (.inl rfl) (by conv => lhs; whnf) rfl rfl rfl ?_
    refine s_mv (.inl rfl) (by conv => lhs; whnf) rfl rfl rfl ?_
    refine s_len (m := v0_0.length) rfl sl37 rfl rfl rfl rfl ?_
    refine s_of (st_lss rfl rfl rfl) rfl rfl rfl rfl ?_
    refine rt_nil ?_
    refine tri_cond rfl (fun c1 => ?_) (fun c1 => ?_)
    · replace h := cond_t h c1
      refine tri_skip ?_
      refine tri_seq ?_
      refine tri_block ?_
      refine tri_seq ?_
      refine tri_region ?_
      refine s_mv (.inl rfl) (by conv => lhs; whnf) rfl rfl rfl ?_
      refine s_mv (.inl rfl) (by conv => lhs; whnf) rfl rfl rfl ?_
      refine s_mv (.inl rfl) (by conv => lhs; whnf) rfl rfl rfl ?_
      refine bnd1_elim h fun x2 q3 h => ?_
      refine s_callN (kb := []) (ns := []) (v := .sc (.string x2)) rfl rfl cl39 (ww_markText v0_1 x2 q3) rfl (.cons (.free rfl) .nil) trivial memNil .nil memNil rfl trivial memNil rfl rfl rfl rfl rfl rfl ?_
      refine bnd1_elim h fun x4 q5 h => ?_
      have q5a := (idx_some q5).1; have q5b := (idx_some q5).2
      refine s_indexZ rfl rfl rfl rfl sl37 rfl q5a (get_lt q5b) rfl rfl rfl ?_
      refine s_fieldAddr rfl rfl fd70_0 rfl rfl rfl rfl ?_
      refine s_storeL (x' := Rec.mk x2 x4.ty x4.ttl x4.n x4.host x4.text) rfl rfl rfl q5b ty9 rfl rfl rfl rfl rfl rfl ?_
      refine rt_nil ?_
      refine tri_seq ?_
      refine tri_region ?_
      refine s_mv (.inl rfl) (by conv => lhs; whnf) rfl rfl rfl ?_
      refine grd_elim h fun g6 h => ?_
      refine s_addI rfl rfl rfl rfl g6 rfl rfl rfl ?_
      refine s_mv (.inr rfl) (by conv => lhs; whnf) rfl rfl rfl ?_
      refine rt_nil ?_
      refine tri_seq ?_
      refine tri_region ?_
      refine s_mv (.inl rfl) (by conv => lhs; whnf) rfl rfl rfl ?_
      refine s_mv (.inl rfl) (by conv => lhs; whnf) rfl rfl rfl ?_
      refine s_mv (.inl rfl) (by conv => lhs; whnf) rfl rfl rfl ?_
      refine s_indexZ rfl rfl rfl rfl sl37 rfl q5a (by have q := get_lt q5b; simpa only [List.length_set] using q) rfl rfl rfl ?_
      refine s_fieldAddr rfl rfl fd70_1 rfl rfl rfl rfl ?_
      refine s_storeL (x' := Rec.mk x2 (v0_1 + 1) x4.ttl x4.n x4.host x4.text) rfl rfl rfl (get_set q5b) ty3 rfl rfl rfl rfl rfl rfl ?_
      refine rt_nil ?_
      refine tri_seq ?_
      refine tri_region ?_
      refine s_mv (.inl rfl) (by conv => lhs; whnf) rfl rfl rfl ?_
      refine grd_elim h fun g7 h => ?_
      refine s_addI rfl rfl rfl rfl g7 rfl rfl rfl ?_
      refine s_mv (.inr rfl) (by conv => lhs; whnf) rfl rfl rfl ?_
      refine rt_nil ?_
      refine tri_seq ?_
      refine tri_region ?_
      refine s_mv (.inl rfl) (by conv => lhs; whnf) rfl rfl rfl ?_
      refine s_mv (.inl rfl) (by conv => lhs; whnf) rfl rfl rfl ?_
      refine s_mv (.inl rfl) (by conv => lhs; whnf) rfl rfl rfl ?_
      refine s_indexZ rfl rfl rfl rfl sl37 rfl q5a (by have q := get_lt q5b; simpa only [List.length_set] using q) rfl rfl rfl ?_
      refine s_fieldAddr rfl rfl fd70_2 rfl rfl rfl rfl ?_
      refine s_storeL (x' := Rec.mk x2 (v0_1 + 1) ((v0_1 + 1) + 1) x4.n x4.host x4.text) rfl rfl rfl (get_set (get_set q5b)) ty3 rfl rfl rfl rfl rfl rfl ?_
      refine rt_nil ?_
      refine tri_seq ?_
      refine tri_region ?_
      refine s_mv (.inl rfl) (by conv => lhs; whnf) rfl rfl rfl ?_
      refine grd_elim h fun g8 h => ?_
      refine s_addI rfl rfl rfl rfl g8 rfl rfl rfl ?_
      refine s_mv (.inr rfl) (by conv => lhs; whnf) rfl rfl rfl ?_
      refine rt_nil ?_
      refine tri_seq ?_
      refine tri_region ?_
      refine s_mv (.inl rfl) (by conv => lhs; whnf) rfl rfl rfl ?_
      refine s_mv (.inl rfl) (by conv => lhs; whnf) rfl rfl rfl ?_
      refine s_mv (.inl rfl) (by conv => lhs; whnf) rfl rfl rfl ?_
      refine s_indexZ rfl rfl rfl rfl sl37 rfl q5a (by have q := get_lt q5b; simpa only [List.length_set] using q) rfl rfl rfl ?_
      refine s_fieldAddr rfl rfl fd70_3 rfl rfl rfl rfl ?_
      refine s_storeL (x' := Rec.mk x2 (v0_1 + 1) ((v0_1 + 1) + 1) (((v0_1 + 1) + 1) + 1) x4.host x4.text) rfl rfl rfl (get_set (get_set (get_set q5b))) ty3 rfl rfl rfl rfl rfl rfl ?_
      refine rt_nil ?_
      refine tri_seq ?_
      refine tri_region ?_
      refine s_mv (.inl rfl) (by conv => lhs; whnf) rfl rfl rfl ?_
      refine grd_elim h fun g9 h => ?_
      refine s_addI rfl rfl rfl rfl g9 rfl rfl rfl ?_
      refine s_mv (.inr rfl) (by conv => lhs; whnf) rfl rfl rfl ?_
      refine rt_nil ?_
      refine tri_seq ?_
      refine tri_region ?_
      refine s_mv (.inl rfl) (by conv => lhs; whnf) rfl rfl rfl ?_
      refine s_mv (.inl rfl) (by conv => lhs; whnf) rfl rfl rfl ?_
      refine s_mv (.inl rfl) (by conv => lhs; whnf) rfl rfl rfl ?_
      refine bnd1_elim h fun x10 q11 h => ?_
      refine s_callN (kb := []) (ns := []) (v := .sc (.string x10)) rfl rfl cl39 (ww_markText ((((v0_1 + 1) + 1) + 1) + 1) x10 q11) rfl (.cons (.free rfl) .nil) trivial memNil .nil memNil rfl trivial memNil rfl rfl rfl rfl rfl rfl ?_
      refine s_indexZ rfl rfl rfl rfl sl37 rfl q5a (by have q := get_lt q5b; simpa only [List.length_set] using q) rfl rfl rfl ?_
      refine s_fieldAddr rfl rfl fd70_4 rfl rfl rfl rfl ?_
      refine s_storeL (x' := Rec.mk x2 (v0_1 + 1) ((v0_1 + 1) + 1) (((v0_1 + 1) + 1) + 1) x10 x4.text) rfl rfl rfl (get_set (get_set (get_set (get_set q5b)))) ty9 rfl rfl rfl rfl rfl rfl ?_
      refine rt_nil ?_
      refine tri_seq ?_
      refine tri_region ?_
      refine s_mv (.inl rfl) (by conv => lhs; whnf) rfl rfl rfl ?_
      refine grd_elim h fun g12 h => ?_
      refine s_addI rfl rfl rfl rfl g12 rfl rfl rfl ?_
      refine s_mv (.inr rfl) (by conv => lhs; whnf) rfl rfl rfl ?_
      refine rt_nil ?_
      refine tri_seq ?_
      refine tri_region ?_
      refine s_mv (.inl rfl) (by conv => lhs; whnf) rfl rfl rfl ?_
      refine s_mv (.inl rfl) (by conv => lhs; whnf) rfl rfl rfl ?_
      refine s_mv (.inl rfl) (by conv => lhs; whnf) rfl rfl rfl ?_
      refine bnd1_elim h fun x13 q14 h => ?_
      refine s_callN (kb := []) (ns := []) (v := .sc (.string x13)) rfl rfl cl39 (ww_markText (((((v0_1 + 1) + 1) + 1) + 1) + 1) x13 q14) rfl (.cons (.free rfl) .nil) trivial memNil .nil memNil rfl trivial memNil rfl rfl rfl rfl rfl rfl ?_
      refine s_indexZ rfl rfl rfl rfl sl37 rfl q5a (by have q := get_lt q5b; simpa only [List.length_set] using q) rfl rfl rfl ?_
      refine s_fieldAddr rfl rfl fd70_5 rfl rfl rfl rfl ?_
      refine s_storeL (x' := Rec.mk x2 (v0_1 + 1) ((v0_1 + 1) + 1) (((v0_1 + 1) + 1) + 1) x10 x13) rfl rfl rfl (get_set (get_set (get_set (get_set (get_set q5b))))) ty9 rfl rfl rfl rfl rfl rfl ?_
      refine rt_nil ?_
      refine tri_region ?_
      refine s_mv (.inl rfl) (by conv => lhs; whnf) rfl rfl rfl ?_
      refine grd_elim h fun g15 h => ?_
      refine s_addI rfl rfl rfl rfl g15 rfl rfl rfl ?_
      refine s_mv (.inr rfl) (by conv => lhs; whnf) rfl rfl rfl ?_
      refine rt_nil ?_
      refine tri_region ?_
      refine s_mv (.inl rfl) (by conv => lhs; whnf) rfl rfl rfl ?_
      refine grd_elim h fun g16 h => ?_
      refine s_addI rfl rfl rfl rfl g16 rfl rfl rfl ?_
      refine s_mv (.inr rfl) (by conv => lhs; whnf) rfl rfl rfl ?_
      refine rt_nil ?_
      refine Exists.intro ⟨(f0, (((((v0_0.set v0_2.toNat (Rec.mk x2 x4.ty x4.ttl x4.n x4.host x4.text)).set v0_2.toNat (Rec.mk x2 (v0_1 + 1) x4.ttl x4.n x4.host x4.text)).set v0_2.toNat (Rec.mk x2 (v0_1 + 1) ((v0_1 + 1) + 1) x4.n x4.host x4.text)).set v0_2.toNat (Rec.mk x2 (v0_1 + 1) ((v0_1 + 1) + 1) (((v0_1 + 1) + 1) + 1) x4.host x4.text)).set v0_2.toNat (Rec.mk x2 (v0_1 + 1) ((v0_1 + 1) + 1) (((v0_1 + 1) + 1) + 1) x10 x4.text)).set v0_2.toNat (Rec.mk x2 (v0_1 + 1) ((v0_1 + 1) + 1) (((v0_1 + 1) + 1) + 1) x10 x13), (((((v0_1 + 1) + 1) + 1) + 1) + 1) + 1, v0_2 + 1), h⟩ (And.intro (Nat.lt_succ_self _) ?_)
      refine entX [((1000, 0), ⟨70, 6, List.map recV ((((((v0_0.set v0_2.toNat (Rec.mk x2 x4.ty x4.ttl x4.n x4.host x4.text)).set v0_2.toNat (Rec.mk x2 (v0_1 + 1) x4.ttl x4.n x4.host x4.text)).set v0_2.toNat (Rec.mk x2 (v0_1 + 1) ((v0_1 + 1) + 1) x4.n x4.host x4.text)).set v0_2.toNat (Rec.mk x2 (v0_1 + 1) ((v0_1 + 1) + 1) (((v0_1 + 1) + 1) + 1) x4.host x4.text)).set v0_2.toNat (Rec.mk x2 (v0_1 + 1) ((v0_1 + 1) + 1) (((v0_1 + 1) + 1) + 1) x10 x4.text)).set v0_2.toNat (Rec.mk x2 (v0_1 + 1) ((v0_1 + 1) + 1) (((v0_1 + 1) + 1) + 1) x10 x13)), false, false⟩, some (1000, 0))] [] ⟨⟨rfl, _, rfl, rfl, rfl, rfl, id, rowsCv_eq rfl (allFree_map recV_free), rowsZ_map recV_len⟩, trivial⟩ trivial rfl rfl ?_
      exact ⟨(cvRefLen rfl (by simp only [List.length_set])), (.free rfl), (.free rfl), trivial⟩
    · replace h := cond_f h c1
      refine tri_exit ?_
      refine tri_seq ?_
      refine tri_region ?_
      refine s_mv (.inl rfl) (by conv => lhs; whnf) rfl rfl rfl ?_
      refine s_mv (.inr rfl) (by conv => lhs; whnf) rfl rfl rfl ?_
      refine rt_nil ?_
      refine tri_ret ?_
      have e0 := (some2 h).1; have e1 := (some2 h).2; subst e0; subst e1
      exact endY [((1000, 0), ⟨70, 6, List.map recV v0_0, false, false⟩, some (1000, 0))] [] (rvC (resTmp rfl) rvN) ⟨⟨rfl, _, rfl, rfl, rfl, rfl, id, rowsCv_eq rfl (allFree_map recV_free), rowsZ_map recV_len⟩, trivial⟩ trivial rfl rfl (by kernel_rfl) rfl (.free rfl)

/- laws.markEntryS -/

def invR_w_markEntryS_0 (v0_0 : List MEntry) (v0_1 : Int) (v0_2 : Int) : St := mkT 58 [(0, .ref (1000, 0) 0 v0_0.length), (1, .sc (.int .i64 v0_1)), (5, .sc (.int .i64 v0_2))] (((1000, 0), some ⟨39, 6, nr 1000 mEntryN 1 v0_0, false, false⟩) :: (fam 1000 1 (List.map mEntryP v0_0) ++ []))
set_option maxRecDepth 4000 in
set_option maxHeartbeats 1600000 in
theorem wRw_markEntryS (p0 : List MEntry) (p1 : Int) (r0 : Int) (r1 : List MEntry) (h : w_markEntryS p0 p1 = some (r0, r1)) : RunsG Try.prog 24 [.ref (1000, 0) 0 p0.length, .sc (.int .i64 p1)] ([⟨39, 6, nr 1000 mEntryN 1 p0, false, false⟩] ++ List.map mEntryP p0) (.sc (.int .i64 r0)) [] ([⟨39, 6, nr 1000 mEntryN 1 r1, false, false⟩] ++ List.map mEntryP r1) := by
  unfold w_markEntryS at h
  have hlen := w_markEntryS_len _ _ _ _ _ _ h
  refine runsG [.tmp 4] Try.func24 rfl rfl rfl (by simp only [List.length_append, List.length_map, hlen]; rfl) ?_
  rw [Try.ntmps24, outsL_one]
  refine tri_seq ?_
  refine tri_region ?_
  refine s_mv (.inr rfl) (v := .sc (.int .i64 0)) rfl rfl rfl rfl ?_
  refine rt_nil ?_
  refine tri_seq ?_
  refine tri_seq ?_
  refine tri_region ?_
  refine s_mv (.inr rfl) (v := .sc (.int .i64 0)) rfl rfl rfl rfl ?_
  refine rt_nil ?_
  refine tri_block ?_
  refine tri_loop (ι := { p : Nat × (List MEntry) × Int × Int // w_markEntryS_l0 p.1 p.2.1 p.2.2.1 p.2.2.2 = some (r0, r1) }) (fun p => invR_w_markEntryS_0 p.1.2.1 p.1.2.2.1 p.1.2.2.2) (fun p => p.1.1) ⟨(fuel0, p0, p1, 0), h⟩ ?_ ?_
  · skip
    refine nest_mark rfl rfl (fun j y hy => lkTo rfl (fam_lk (by rw [List.getElem?_map, hy]; rfl))) mEntryN_z (fun x h => mEntryN_cv x h) mEntryP_f mEntryP_z (only_lit (by decide) (by have := only_fam (b := 1) (Es := List.map mEntryP p0); rw [List.length_map] at this; exact this)) ?_
    exact ⟨(.ref rfl), (.free rfl), (.free rfl), trivial⟩
  · rintro ⟨⟨f0, v0_0, v0_1, v0_2⟩, h⟩
    replace h : w_markEntryS_l0 f0 v0_0 v0_1 v0_2 = some (r0, r1) := h
    cases f0 with
    | zero => cases h
    | succ f0 =>
    rw [w_markEntryS_l0] at h
    show Tri _ _ _ (invR_w_markEntryS_0 v0_0 v0_1 v0_2)
    refine tri_seq ?_
    refine tri_seq ?_
    refine tri_region ?_
    refine s_mv (.inl rfl) (by conv => lhs; whnf) rfl rfl rfl ?_
    refine s_mv (.inl rfl) (by conv => lhs; whnf) rfl rfl rfl ?_
    refine s_len (m := v0_0.length) rfl sl22 rfl rfl rfl rfl ?_
    refine s_of (st_lss rfl rfl rfl) rfl rfl rfl rfl ?_
    refine rt_nil ?_
    refine tri_cond rfl (fun c1 => ?_) (fun c1 => ?_)
    · replace h := cond_t h c1
      refine tri_skip ?_
      refine tri_seq ?_
      refine tri_block ?_
      refine tri_seq ?_
      refine tri_region ?_
      refine s_mv (.inl rfl) (by conv => lhs; whnf) rfl rfl rfl ?_
      refine s_mv (.inl rfl) (by conv => lhs; whnf) rfl rfl rfl ?_
      refine s_mv (.inl rfl) (by conv => lhs; whnf) rfl rfl rfl ?_
      refine bnd1_elim h fun x2 q3 h => ?_
      refine s_callN (kb := []) (ns := []) (v := .sc (.string x2)) rfl rfl cl39 (ww_markText v0_1 x2 q3) rfl (.cons (.free rfl) .nil) trivial memNil .nil memNil rfl trivial memNil rfl rfl rfl rfl rfl rfl ?_
      refine bnd1_elim h fun x4 q5 h => ?_
      have q5a := (idx_some q5).1; have q5b := (idx_some q5).2
      refine s_indexZ rfl rfl rfl rfl sl22 rfl q5a (get_lt q5b) rfl rfl rfl ?_
      refine s_fieldAddr rfl rfl fd39_0 rfl rfl rfl rfl ?_
      refine s_fieldAddr rfl rfl fd36_0 rfl rfl rfl rfl ?_
      refine s_store (rows' := (nr 1000 mEntryN 1 v0_0).set v0_2.toNat [.sc (.string x2), .sc (.int .i64 x4.q.ty), .sc (.int .i64 x4.kind), .ref (1000, v0_2.toNat + 1) 0 x4.l.length, .sc (.int .i64 x4.rank), .sc (.int .i64 x4.til)]) rfl rfl rfl (nr_get q5b) ty9 rfl rfl rfl rfl rfl rfl ?_
      refine rt_nil ?_
      refine tri_seq ?_
      refine tri_region ?_
      refine s_mv (.inl rfl) (by conv => lhs; whnf) rfl rfl rfl ?_
      refine grd_elim h fun g6 h => ?_
      refine s_addI rfl rfl rfl rfl g6 rfl rfl rfl ?_
      refine s_mv (.inr rfl) (by conv => lhs; whnf) rfl rfl rfl ?_
      refine rt_nil ?_
      refine tri_seq ?_
      refine tri_region ?_
      refine s_mv (.inl rfl) (by conv => lhs; whnf) rfl rfl rfl ?_
      refine s_mv (.inl rfl) (by conv => lhs; whnf) rfl rfl rfl ?_
      refine s_mv (.inl rfl) (by conv => lhs; whnf) rfl rfl rfl ?_
      refine s_indexZ rfl rfl rfl rfl sl22 rfl q5a (get_lt q5b) rfl rfl rfl ?_
      refine s_fieldAddr rfl rfl fd39_0 rfl rfl rfl rfl ?_
      refine s_fieldAddr rfl rfl fd36_1 rfl rfl rfl rfl ?_
      refine s_store (rows' := ((nr 1000 mEntryN 1 v0_0).set v0_2.toNat [.sc (.string x2), .sc (.int .i64 x4.q.ty), .sc (.int .i64 x4.kind), .ref (1000, v0_2.toNat + 1) 0 x4.l.length, .sc (.int .i64 x4.rank), .sc (.int .i64 x4.til)]).set v0_2.toNat [.sc (.string x2), .sc (.int .i64 (v0_1 + 1)), .sc (.int .i64 x4.kind), .ref (1000, v0_2.toNat + 1) 0 x4.l.length, .sc (.int .i64 x4.rank), .sc (.int .i64 x4.til)]) rfl rfl rfl (get_set (nr_get q5b)) ty3 rfl rfl rfl rfl rfl rfl ?_
      refine rt_nil ?_
      refine tri_seq ?_
      refine tri_region ?_
      refine s_mv (.inl rfl) (by conv => lhs; whnf) rfl rfl rfl ?_
      refine grd_elim h fun g7 h => ?_
      refine s_addI rfl rfl rfl rfl g7 rfl rfl rfl ?_
      refine s_mv (.inr rfl) (by conv => lhs; whnf) rfl rfl rfl ?_
      refine rt_nil ?_
      refine tri_seq ?_
      refine tri_region ?_
      refine s_mv (.inl rfl) (by conv => lhs; whnf) rfl rfl rfl ?_
      refine s_mv (.inl rfl) (by conv => lhs; whnf) rfl rfl rfl ?_
      refine s_mv (.inl rfl) (by conv => lhs; whnf) rfl rfl rfl ?_
      refine s_indexZ rfl rfl rfl rfl sl22 rfl q5a (get_lt q5b) rfl rfl rfl ?_
      refine s_fieldAddr rfl rfl fd39_1 rfl rfl rfl rfl ?_
      refine s_store (rows' := (((nr 1000 mEntryN 1 v0_0).set v0_2.toNat [.sc (.string x2), .sc (.int .i64 x4.q.ty), .sc (.int .i64 x4.kind), .ref (1000, v0_2.toNat + 1) 0 x4.l.length, .sc (.int .i64 x4.rank), .sc (.int .i64 x4.til)]).set v0_2.toNat [.sc (.string x2), .sc (.int .i64 (v0_1 + 1)), .sc (.int .i64 x4.kind), .ref (1000, v0_2.toNat + 1) 0 x4.l.length, .sc (.int .i64 x4.rank), .sc (.int .i64 x4.til)]).set v0_2.toNat [.sc (.string x2), .sc (.int .i64 (v0_1 + 1)), .sc (.int .i64 (v0_1 + 1 + 1)), .ref (1000, v0_2.toNat + 1) 0 x4.l.length, .sc (.int .i64 x4.rank), .sc (.int .i64 x4.til)]) rfl rfl rfl (get_set (get_set (nr_get q5b))) ty3 rfl rfl rfl rfl rfl rfl ?_
      refine rt_nil ?_
      refine tri_seq ?_
      refine tri_region ?_
      refine s_mv (.inl rfl) (by conv => lhs; whnf) rfl rfl rfl ?_
      refine grd_elim h fun g8 h => ?_
      refine s_addI rfl rfl rfl rfl g8 rfl rfl rfl ?_
      refine s_mv (.inr rfl) (by conv => lhs; whnf) rfl rfl rfl ?_
      refine rt_nil ?_
      refine tri_seq ?_
      refine tri_region ?_
      refine s_mv (.inl rfl) (by conv => lhs; whnf) rfl rfl rfl ?_
      refine s_mv (.inl rfl) (by conv => lhs; whnf) rfl rfl rfl ?_
      refine s_indexZ rfl rfl rfl rfl sl22 rfl q5a (get_lt q5b) rfl rfl rfl ?_
      refine s_fieldAddr rfl rfl fd39_2 rfl rfl rfl rfl ?_
      refine s_load rfl rfl rfl (get_set (get_set (get_set (nr_get q5b)))) ty37 rfl (.inr rfl) (by conv => lhs; whnf) rfl rfl rfl ?_
      refine s_mv (.inl rfl) (by conv => lhs; whnf) rfl rfl rfl ?_
      refine bnd2_elim h fun x5 x6 q7 h => ?_
      refine grd_elim h fun gl h => ?_
      have hm : (List.map mEntryP v0_0)[v0_2.toNat]? = some (mEntryP x4) := by rw [List.getElem?_map, q5b]; rfl
      refine s_callN (kb := []) (ns := [(1000, v0_2.toNat + 1)]) (v := .sc (.int .i64 x5)) rfl rfl cl34 (ww_markRecordS x4.l (v0_1 + 1 + 1 + 1) x5 x6 q7) rfl (.cons (.refOwn rfl) (.cons (.free rfl) .nil)) ⟨⟨mEntryP x4, lkTo rfl (lkTo rfl (lkTo rfl (lkTo rfl (fam_lk hm)))), rfl⟩, trivial⟩ (memCons (allFree_map recV_free) memNil) (List.nodup_cons.2 ⟨List.not_mem_nil, .nil⟩) memNil rfl trivial (memCons (allSc_map recV_sc) memNil) rfl rfl (congrArg (fun b => ((1000, v0_2.toNat + 1), some (⟨70, 6, List.map recV x6, false, b⟩ : Entry)) :: _) (mine_of (lkTo rfl (lkTo rfl (lkTo rfl (lkTo rfl (fam_lk hm))))))) rfl rfl rfl ?_
      refine s_mv (.inr rfl) (by conv => lhs; whnf) rfl rfl rfl ?_
      refine rt_nil ?_
      refine tri_seq ?_
      refine tri_region ?_
      refine s_mv (.inl rfl) (by conv => lhs; whnf) rfl rfl rfl ?_
      refine s_mv (.inl rfl) (by conv => lhs; whnf) rfl rfl rfl ?_
      refine s_mv (.inl rfl) (by conv => lhs; whnf) rfl rfl rfl ?_
      refine s_indexZ rfl rfl rfl rfl sl22 rfl q5a (get_lt q5b) rfl rfl rfl ?_
      refine s_fieldAddr rfl rfl fd39_3 rfl rfl rfl rfl ?_
      refine s_store (rows' := ((((nr 1000 mEntryN 1 v0_0).set v0_2.toNat [.sc (.string x2), .sc (.int .i64 x4.q.ty), .sc (.int .i64 x4.kind), .ref (1000, v0_2.toNat + 1) 0 x4.l.length, .sc (.int .i64 x4.rank), .sc (.int .i64 x4.til)]).set v0_2.toNat [.sc (.string x2), .sc (.int .i64 (v0_1 + 1)), .sc (.int .i64 x4.kind), .ref (1000, v0_2.toNat + 1) 0 x4.l.length, .sc (.int .i64 x4.rank), .sc (.int .i64 x4.til)]).set v0_2.toNat [.sc (.string x2), .sc (.int .i64 (v0_1 + 1)), .sc (.int .i64 (v0_1 + 1 + 1)), .ref (1000, v0_2.toNat + 1) 0 x4.l.length, .sc (.int .i64 x4.rank), .sc (.int .i64 x4.til)]).set v0_2.toNat [.sc (.string x2), .sc (.int .i64 (v0_1 + 1)), .sc (.int .i64 (v0_1 + 1 + 1)), .ref (1000, v0_2.toNat + 1) 0 x4.l.length, .sc (.int .i64 x5), .sc (.int .i64 x4.til)]) rfl rfl rfl (get_set (get_set (get_set (nr_get q5b)))) ty3 rfl rfl rfl rfl rfl rfl ?_
      refine rt_nil ?_
      refine tri_seq ?_
      refine tri_region ?_
      refine s_mv (.inl rfl) (by conv => lhs; whnf) rfl rfl rfl ?_
      refine grd_elim h fun g9 h => ?_
      refine s_addI rfl rfl rfl rfl g9 rfl rfl rfl ?_
      refine s_mv (.inr rfl) (by conv => lhs; whnf) rfl rfl rfl ?_
      refine rt_nil ?_
      refine tri_seq ?_
      refine tri_region ?_
      refine s_mv (.inl rfl) (by conv => lhs; whnf) rfl rfl rfl ?_
      refine s_mv (.inl rfl) (by conv => lhs; whnf) rfl rfl rfl ?_
      refine s_mv (.inl rfl) (by conv => lhs; whnf) rfl rfl rfl ?_
      refine s_indexZ rfl rfl rfl rfl sl22 rfl q5a (get_lt q5b) rfl rfl rfl ?_
      refine s_fieldAddr rfl rfl fd39_4 rfl rfl rfl rfl ?_
      refine s_store (rows' := (((((nr 1000 mEntryN 1 v0_0).set v0_2.toNat [.sc (.string x2), .sc (.int .i64 x4.q.ty), .sc (.int .i64 x4.kind), .ref (1000, v0_2.toNat + 1) 0 x4.l.length, .sc (.int .i64 x4.rank), .sc (.int .i64 x4.til)]).set v0_2.toNat [.sc (.string x2), .sc (.int .i64 (v0_1 + 1)), .sc (.int .i64 x4.kind), .ref (1000, v0_2.toNat + 1) 0 x4.l.length, .sc (.int .i64 x4.rank), .sc (.int .i64 x4.til)]).set v0_2.toNat [.sc (.string x2), .sc (.int .i64 (v0_1 + 1)), .sc (.int .i64 (v0_1 + 1 + 1)), .ref (1000, v0_2.toNat + 1) 0 x4.l.length, .sc (.int .i64 x4.rank), .sc (.int .i64 x4.til)]).set v0_2.toNat [.sc (.string x2), .sc (.int .i64 (v0_1 + 1)), .sc (.int .i64 (v0_1 + 1 + 1)), .ref (1000, v0_2.toNat + 1) 0 x4.l.length, .sc (.int .i64 x5), .sc (.int .i64 x4.til)]).set v0_2.toNat [.sc (.string x2), .sc (.int .i64 (v0_1 + 1)), .sc (.int .i64 (v0_1 + 1 + 1)), .ref (1000, v0_2.toNat + 1) 0 x4.l.length, .sc (.int .i64 x5), .sc (.int .i64 (x5 + 1))]) rfl rfl rfl (get_set (get_set (get_set (get_set (nr_get q5b))))) ty3 rfl rfl rfl rfl rfl rfl ?_
      refine rt_nil ?_
      refine tri_region ?_
      refine s_mv (.inl rfl) (by conv => lhs; whnf) rfl rfl rfl ?_
      refine grd_elim h fun g10 h => ?_
      refine s_addI rfl rfl rfl rfl g10 rfl rfl rfl ?_
      refine s_mv (.inr rfl) (by conv => lhs; whnf) rfl rfl rfl ?_
      refine rt_nil ?_
      refine tri_region ?_
      refine s_mv (.inl rfl) (by conv => lhs; whnf) rfl rfl rfl ?_
      refine grd_elim h fun g11 h => ?_
      refine s_addI rfl rfl rfl rfl g11 rfl rfl rfl ?_
      refine s_mv (.inr rfl) (by conv => lhs; whnf) rfl rfl rfl ?_
      refine rt_nil ?_
      refine Exists.intro ⟨(f0, v0_0.set v0_2.toNat (MEntry.mk (Quest.mk x2 (v0_1 + 1)) (v0_1 + 1 + 1) x6 x5 (x5 + 1)), x5 + 1 + 1, v0_2 + 1), h⟩ (And.intro (Nat.lt_succ_self _) ?_)
      have hr : (((((nr 1000 mEntryN 1 v0_0).set v0_2.toNat [.sc (.string x2), .sc (.int .i64 x4.q.ty), .sc (.int .i64 x4.kind), .ref (1000, v0_2.toNat + 1) 0 x4.l.length, .sc (.int .i64 x4.rank), .sc (.int .i64 x4.til)]).set v0_2.toNat [.sc (.string x2), .sc (.int .i64 (v0_1 + 1)), .sc (.int .i64 x4.kind), .ref (1000, v0_2.toNat + 1) 0 x4.l.length, .sc (.int .i64 x4.rank), .sc (.int .i64 x4.til)]).set v0_2.toNat [.sc (.string x2), .sc (.int .i64 (v0_1 + 1)), .sc (.int .i64 (v0_1 + 1 + 1)), .ref (1000, v0_2.toNat + 1) 0 x4.l.length, .sc (.int .i64 x4.rank), .sc (.int .i64 x4.til)]).set v0_2.toNat [.sc (.string x2), .sc (.int .i64 (v0_1 + 1)), .sc (.int .i64 (v0_1 + 1 + 1)), .ref (1000, v0_2.toNat + 1) 0 x4.l.length, .sc (.int .i64 x5), .sc (.int .i64 x4.til)]).set v0_2.toNat [.sc (.string x2), .sc (.int .i64 (v0_1 + 1)), .sc (.int .i64 (v0_1 + 1 + 1)), .ref (1000, v0_2.toNat + 1) 0 x4.l.length, .sc (.int .i64 x5), .sc (.int .i64 (x5 + 1))] = nr 1000 mEntryN 1 (v0_0.set v0_2.toNat (MEntry.mk (Quest.mk x2 (v0_1 + 1)) (v0_1 + 1 + 1) x6 x5 (x5 + 1))) := by
        simp only [List.set_set]; exact nr_set (by rw [← gl]; rfl)
      refine nest_mark rfl hr (fun j y hy => ?_) mEntryN_z (fun x h => mEntryN_cv x h) mEntryP_f mEntryP_z (by rw [List.length_set]; exact (only_lit (by decide) (only_lit (by decide) (only_mem (get_lt q5b) (only_lit (by decide) (only_lit (by decide) (only_lit (by decide) (only_lit (by decide) (by have := only_fam (b := 1) (Es := List.map mEntryP v0_0); rw [List.length_map] at this; exact this))))))))) ?_
      · rcases set_cases hy with ⟨rfl, rfl, hi⟩ | ⟨hji, hy⟩
        · exact lkTo rfl (lkTo rfl lkAt)
        · exact lkTo rfl (lkTo rfl (lkTo (nmEq_ne hji) (lkTo rfl (lkTo rfl (lkTo rfl (lkTo rfl (fam_lk (by rw [List.getElem?_map, hy]; rfl))))))))
      · exact ⟨(cvRefLen rfl (by simp only [List.length_set])), (.free rfl), (.free rfl), trivial⟩
    · replace h := cond_f h c1
      refine tri_exit ?_
      refine tri_seq ?_
      refine tri_region ?_
      refine s_mv (.inl rfl) (by conv => lhs; whnf) rfl rfl rfl ?_
      refine s_mv (.inr rfl) (by conv => lhs; whnf) rfl rfl rfl ?_
      refine rt_nil ?_
      refine tri_ret ?_
      have e0 := (some2 h).1; have e1 := (some2 h).2; subst e0; subst e1
      exact nest_endB (b := 1) [((1000, 0), ⟨39, 6, nr 1000 mEntryN 1 v0_0, false, false⟩, some (1000, 0))] [⟨39, 6, nr 1000 mEntryN 1 v0_0, false, false⟩] (rvC (resTmp rfl) rvN) rfl ⟨⟨rfl, _, rfl, rfl, rfl, rfl, id, rowsCv_fam (fun x h => mEntryN_cv x h), nr_rowsZ mEntryN_z⟩, trivial⟩ rfl rfl (fun _ => rfl) rfl (fun j y hy => lkTo rfl (fam_lk (by rw [List.getElem?_map, hy]; rfl))) mEntryP_f mEntryP_z (only_lit (by decide) (by have := only_fam (b := 1) (Es := List.map mEntryP v0_0); rw [List.length_map] at this; exact this)) (fun j hj => by cases (Nat.lt_one_iff.1 hj : j = 0); rfl) rfl rfl

/- laws.markCache -/

set_option maxRecDepth 4000 in
set_option maxHeartbeats 800000 in
theorem wRw_markCache (p0 : MCache) (p1 : Int) (r0 : Int) (r1 : List MEntry) (h : w_markCache p0 p1 = some (r0, r1)) : RunsG Try.prog 9 [.agg [.sc (.int .i64 p0.cap), .ref (1000, 0) 0 p0.l.length], .sc (.int .i64 p1)] ([⟨39, 6, nr 1000 mEntryN 1 p0.l, false, false⟩] ++ List.map mEntryP p0.l) (.sc (.int .i64 r0)) [] ([⟨39, 6, nr 1000 mEntryN 1 r1, false, false⟩] ++ List.map mEntryP r1) := by
  unfold w_markCache at h
  refine bnd2_elim h fun x1 x2 q3 h => ?_
  refine grd_elim h fun g4 h => ?_
  have e0 := (some2 h).1; have e1 := (some2 h).2; subst e0; subst e1
  refine runsG [.tmp 4] Try.func9 rfl rfl rfl (by simp only [List.length_append, List.length_map, g4]; rfl) ?_
  rw [Try.ntmps9, outsL_one]
  refine tri_seq ?_
  refine tri_region ?_
  refine s_box rfl rfl (lkNo rfl (famNo rfl rfl)) rfl rfl rfl rfl ?_
  refine s_mv (.inr rfl) (v := .sc (.int .i64 0)) rfl rfl rfl rfl ?_
  refine rt_nil ?_
  refine tri_seq ?_
  refine tri_region ?_
  refine s_fieldAddr rfl rfl fd24_1 rfl rfl rfl rfl ?_
  refine s_load rfl rfl rfl rfl ty22 rfl (.inr rfl) (by conv => lhs; whnf) rfl rfl rfl ?_
  refine s_mv (.inl rfl) (by conv => lhs; whnf) rfl rfl rfl ?_
  refine s_callMn (A := [((2, 0), some ⟨24, 2, [[.sc (.int .i64 p0.cap), .ref (1000, 0) 0 p0.l.length]], false, true⟩), ((1000, 0), some ⟨39, 6, nr 1000 mEntryN 1 p0.l, false, false⟩)]) (l := p0.l) (l' := x2) (gm := mEntryP) (fN := mEntryN) (dn := (1000, 0)) (a := 1000) (b := 1) (s := false) (mi := false) rfl rfl cl24 (wRw_markEntryS p0.l p1 x1 x2 q3) g4 rfl (.cons (.refOwn rfl) (.cons (.free rfl) .nil)) rfl (fun j => rfl) (fun k => rfl) mEntryN_z (fun x hm => .cons (.free rfl) (.cons (.free rfl) (.cons (.free rfl) (.cons (.refOwn hm) (.cons (.free rfl) (.cons (.free rfl) .nil)))))) (fun x hm => .cons retSc (.cons retSc (.cons retSc (.cons (.inn hm) (.cons retSc (.cons retSc .nil)))))) (fun x => allSc_map recV_sc) mEntryP_f mEntryP_z (fun _ _ => rfl) rfl rfl rfl rfl ?_
  refine s_mv (.inr rfl) (by conv => lhs; whnf) rfl rfl rfl ?_
  refine rt_nil ?_
  refine tri_seq ?_
  refine tri_region ?_
  refine s_mv (.inl rfl) (by conv => lhs; whnf) rfl rfl rfl ?_
  refine s_mv (.inr rfl) (by conv => lhs; whnf) rfl rfl rfl ?_
  refine rt_nil ?_
  refine tri_ret ?_
  exact nest_endB (b := 1) (l := x2) (g := mEntryP) [((1000, 0), ⟨39, 6, nr 1000 mEntryN 1 x2, false, false⟩, some (1000, 0))] [⟨39, 6, nr 1000 mEntryN 1 x2, false, false⟩] (rvC (resTmp rfl) rvN) rfl ⟨⟨rfl, _, rfl, rfl, rfl, rfl, id, rowsCv_fam (fun x h => mEntryN_cv x h), nr_rowsZ mEntryN_z⟩, trivial⟩ rfl rfl (fun _ => rfl) rfl (fun j y hy => by repeat (first | exact fam_lk (by rw [List.getElem?_map, hy]; rfl) | refine lkTo rfl ?_)) mEntryP_f mEntryP_z (only_lit (by decide) (only_oth rfl (only_lit (by decide) (by have := only_fam (b := 1) (Es := List.map mEntryP x2); rw [List.length_map] at this; exact this)))) (fun j hj => by cases (Nat.lt_one_iff.1 hj : j = 0); rfl) rfl rfl

/- laws.heldRecordS -/
def inv_w_heldRecordS_0 (p0 : List Rec) (v0_0 : Int) (v0_1 : Nat) : St := mkT 70 [(0, .lst 6 (List.map recV p0)), (1, .sc (.int .i64 v0_0)), (5, .sc (.int .i64 (v0_1 : Int)))] []
set_option maxRecDepth 4000 in
set_option maxHeartbeats 800000 in
theorem ww_heldRecordS (p0 : List Rec) (p1 : Int) (r0 : Int) (h : w_heldRecordS p0 p1 = some r0) : Runs Try.prog 35 [.lst 6 (List.map recV p0), .sc (.int .i64 p1)] [] (.sc (.int .i64 r0)) [] := by
  unfold w_heldRecordS at h
  refine runsR [.tmp 4] Try.func35 rfl rfl rfl rfl ?_
  rw [Try.ntmps35]
  refine tri_seq ?_
  refine tri_region ?_
  refine s_mv (.inr rfl) (v := .sc (.int .i64 0)) rfl rfl rfl rfl ?_
  refine rt_nil ?_
  refine tri_seq ?_
  refine tri_seq ?_
  refine tri_region ?_
  refine s_mv (.inr rfl) (v := .sc (.int .i64 0)) rfl rfl rfl rfl ?_
  refine rt_nil ?_
  refine tri_block ?_
  refine tri_lstM 0 rfl (fun hl0 => ?_)
  refine tri_loop (ι := { p : (List Rec) × Int × Nat // p0.drop p.2.2 = p.1 ∧ w_heldRecordS_l0 p.1 p.2.1 p.2.2 = some r0 }) (fun p => inv_w_heldRecordS_0 p0 p.1.2.1 p.1.2.2) (fun p => p.1.1.length) ⟨(p0, p1, 0), rfl, h⟩ ?_ ?_
  · skip
    refine entX [] [] trivial trivial rfl rfl ?_
    exact ⟨(.free rfl), (.free rfl), (.free rfl), trivial⟩
  · rintro ⟨⟨lrs0, v0_0, v0_1⟩, hd0, h⟩
    replace hd0 : p0.drop v0_1 = lrs0 := hd0
    replace h : w_heldRecordS_l0 lrs0 v0_0 v0_1 = some r0 := h
    show Tri _ _ _ (inv_w_heldRecordS_0 p0 v0_0 v0_1)
    refine tri_seq ?_
    refine tri_seq ?_
    refine tri_region ?_
    refine s_mv (.inl rfl) (by conv => lhs; whnf) rfl rfl rfl ?_
    refine s_mv (.inl rfl) (by conv => lhs; whnf) rfl rfl rfl ?_
    refine s_lenL rfl sl37 rfl rfl rfl rfl ?_
    refine s_of (st_lss rfl rfl rfl) rfl rfl rfl rfl ?_
    refine rt_nil ?_
    refine tri_cond rfl (fun c1 => ?_) (fun c1 => ?_)
    · refine drop_elim hd0 c1 fun e0 rs0 he hx0 hn0 => ?_
      subst he
      rw [w_heldRecordS_l0] at h
      refine tri_skip ?_
      refine tri_seq ?_
      refine tri_block ?_
      refine tri_seq ?_
      refine tri_seq ?_
      refine tri_draw mixed ?_
      refine s_mv (.inl rfl) (by conv => lhs; whnf) rfl rfl rfl ?_
      refine s_mv (.inl rfl) (by conv => lhs; whnf) rfl rfl rfl ?_
      refine s_indexF (i := v0_1) rfl rfl rfl sl37 (get_ltM hx0) rfl rfl rfl ?_
      refine s_fieldAddrF rfl rfl fd70_0 rfl rfl rfl rfl ?_
      refine s_loadF rfl rfl (rowG hx0) ty9 rfl (.inr rfl) (by conv => lhs; whnf) rfl rfl rfl ?_
      refine s_mv (.inl rfl) (by conv => lhs; whnf) rfl rfl rfl ?_
      refine bnd1_elim h fun x2 q3 h => ?_
      refine s_callN (kb := []) (ns := []) (v := .sc (.string x2)) rfl rfl cl39 (ww_markText v0_0 x2 q3) rfl (.cons (.free rfl) .nil) trivial memNil .nil memNil rfl trivial memNil rfl rfl rfl rfl rfl rfl ?_
      refine s_of (st_neS rfl rfl rfl) rfl rfl rfl rfl ?_
      refine rt_nil ⟨by kernel_rfl, ?_⟩
      refine tri_cond rfl (fun c4 => ?_) (fun c4 => ?_)
      · replace h := cond_t h c4
        refine tri_seq ?_
        refine tri_region ?_
        refine s_mv (.inr rfl) (v := .sc (.int .i64 (-1))) rfl rfl rfl rfl ?_
        refine rt_nil ?_
        refine tri_ret ?_
        have e0 := (some1 h); subst e0
        exact endY [] [] (rvC (resTmp rfl) rvN) trivial trivial rfl rfl rfl rfl (.free rfl)
      · replace h := cond_f h c4
        refine tri_skip ?_
        refine tri_seq ?_
        refine tri_region ?_
        refine s_mv (.inl rfl) (by conv => lhs; whnf) rfl rfl rfl ?_
        refine grd_elim h fun g5 h => ?_
        refine s_addI rfl rfl rfl rfl g5 rfl rfl rfl ?_
        refine s_mv (.inr rfl) (by conv => lhs; whnf) rfl rfl rfl ?_
        refine rt_nil ?_
        refine tri_seq ?_
        refine tri_seq ?_
        refine tri_region ?_
        refine s_mv (.inl rfl) (by conv => lhs; whnf) rfl rfl rfl ?_
        refine s_mv (.inl rfl) (by conv => lhs; whnf) rfl rfl rfl ?_
        refine s_indexF (i := v0_1) rfl rfl rfl sl37 (get_ltM hx0) rfl rfl rfl ?_
        refine s_fieldAddrF rfl rfl fd70_1 rfl rfl rfl rfl ?_
        refine s_loadF rfl rfl (rowG hx0) ty3 rfl (.inr rfl) (by conv => lhs; whnf) rfl rfl rfl ?_
        refine s_mv (.inl rfl) (by conv => lhs; whnf) rfl rfl rfl ?_
        refine s_of (st_neI rfl rfl rfl) rfl rfl rfl rfl ?_
        refine rt_nil ?_
        refine tri_cond rfl (fun c6 => ?_) (fun c6 => ?_)
        · replace h := cond_t h c6
          refine tri_seq ?_
          refine tri_region ?_
          refine s_mv (.inr rfl) (v := .sc (.int .i64 (-1))) rfl rfl rfl rfl ?_
          refine rt_nil ?_
          refine tri_ret ?_
          have e0 := (some1 h); subst e0
          exact endY [] [] (rvC (resTmp rfl) rvN) trivial trivial rfl rfl rfl rfl (.free rfl)
        · replace h := cond_f h c6
          refine tri_skip ?_
          refine tri_seq ?_
          refine tri_region ?_
          refine s_mv (.inl rfl) (by conv => lhs; whnf) rfl rfl rfl ?_
          refine grd_elim h fun g7 h => ?_
          refine s_addI rfl rfl rfl rfl g7 rfl rfl rfl ?_
          refine s_mv (.inr rfl) (by conv => lhs; whnf) rfl rfl rfl ?_
          refine rt_nil ?_
          refine tri_seq ?_
          refine tri_seq ?_
          refine tri_region ?_
          refine s_mv (.inl rfl) (by conv => lhs; whnf) rfl rfl rfl ?_
          refine s_mv (.inl rfl) (by conv => lhs; whnf) rfl rfl rfl ?_
          refine s_indexF (i := v0_1) rfl rfl rfl sl37 (get_ltM hx0) rfl rfl rfl ?_
          refine s_fieldAddrF rfl rfl fd70_2 rfl rfl rfl rfl ?_
          refine s_loadF rfl rfl (rowG hx0) ty3 rfl (.inr rfl) (by conv => lhs; whnf) rfl rfl rfl ?_
          refine s_mv (.inl rfl) (by conv => lhs; whnf) rfl rfl rfl ?_
          refine s_of (st_neI rfl rfl rfl) rfl rfl rfl rfl ?_
          refine rt_nil ?_
          refine tri_cond rfl (fun c8 => ?_) (fun c8 => ?_)
          · replace h := cond_t h c8
            refine tri_seq ?_
            refine tri_region ?_
            refine s_mv (.inr rfl) (v := .sc (.int .i64 (-1))) rfl rfl rfl rfl ?_
            refine rt_nil ?_
            refine tri_ret ?_
            have e0 := (some1 h); subst e0
            exact endY [] [] (rvC (resTmp rfl) rvN) trivial trivial rfl rfl rfl rfl (.free rfl)
          · replace h := cond_f h c8
            refine tri_skip ?_
            refine tri_seq ?_
            refine tri_region ?_
            refine s_mv (.inl rfl) (by conv => lhs; whnf) rfl rfl rfl ?_
            refine grd_elim h fun g9 h => ?_
            refine s_addI rfl rfl rfl rfl g9 rfl rfl rfl ?_
            refine s_mv (.inr rfl) (by conv => lhs; whnf) rfl rfl rfl ?_
            refine rt_nil ?_
            refine tri_seq ?_
            refine tri_seq ?_
            refine tri_region ?_
            refine s_mv (.inl rfl) (by conv => lhs; whnf) rfl rfl rfl ?_
            refine s_mv (.inl rfl) (by conv => lhs; whnf) rfl rfl rfl ?_
            refine s_indexF (i := v0_1) rfl rfl rfl sl37 (get_ltM hx0) rfl rfl rfl ?_
            refine s_fieldAddrF rfl rfl fd70_3 rfl rfl rfl rfl ?_
            refine s_loadF rfl rfl (rowG hx0) ty3 rfl (.inr rfl) (by conv => lhs; whnf) rfl rfl rfl ?_
            refine s_mv (.inl rfl) (by conv => lhs; whnf) rfl rfl rfl ?_
            refine s_of (st_neI rfl rfl rfl) rfl rfl rfl rfl ?_
            refine rt_nil ?_
            refine tri_cond rfl (fun c10 => ?_) (fun c10 => ?_)
            · replace h := cond_t h c10
              refine tri_seq ?_
              refine tri_region ?_
              refine s_mv (.inr rfl) (v := .sc (.int .i64 (-1))) rfl rfl rfl rfl ?_
              refine rt_nil ?_
              refine tri_ret ?_
              have e0 := (some1 h); subst e0
              exact endY [] [] (rvC (resTmp rfl) rvN) trivial trivial rfl rfl rfl rfl (.free rfl)
            · replace h := cond_f h c10
              refine tri_skip ?_
              refine tri_seq ?_
              refine tri_region ?_
              refine s_mv (.inl rfl) (by conv => lhs; whnf) rfl rfl rfl ?_
              refine grd_elim h fun g11 h => ?_
              refine s_addI rfl rfl rfl rfl g11 rfl rfl rfl ?_
              refine s_mv (.inr rfl) (by conv => lhs; whnf) rfl rfl rfl ?_
              refine rt_nil ?_
              refine tri_seq ?_
              refine tri_seq ?_
              refine tri_draw mixed ?_
              refine s_mv (.inl rfl) (by conv => lhs; whnf) rfl rfl rfl ?_
              refine s_mv (.inl rfl) (by conv => lhs; whnf) rfl rfl rfl ?_
              refine s_indexF (i := v0_1) rfl rfl rfl sl37 (get_ltM hx0) rfl rfl rfl ?_
              refine s_fieldAddrF rfl rfl fd70_4 rfl rfl rfl rfl ?_
              refine s_loadF rfl rfl (rowG hx0) ty9 rfl (.inr rfl) (by conv => lhs; whnf) rfl rfl rfl ?_
              refine s_mv (.inl rfl) (by conv => lhs; whnf) rfl rfl rfl ?_
              refine bnd1_elim h fun x12 q13 h => ?_
              refine s_callN (kb := []) (ns := []) (v := .sc (.string x12)) rfl rfl cl39 (ww_markText ((((v0_0 + 1) + 1) + 1) + 1) x12 q13) rfl (.cons (.free rfl) .nil) trivial memNil .nil memNil rfl trivial memNil rfl rfl rfl rfl rfl rfl ?_
              refine s_of (st_neS rfl rfl rfl) rfl rfl rfl rfl ?_
              refine rt_nil ⟨by kernel_rfl, ?_⟩
              refine tri_cond rfl (fun c14 => ?_) (fun c14 => ?_)
              · replace h := cond_t h c14
                refine tri_seq ?_
                refine tri_region ?_
                refine s_mv (.inr rfl) (v := .sc (.int .i64 (-1))) rfl rfl rfl rfl ?_
                refine rt_nil ?_
                refine tri_ret ?_
                have e0 := (some1 h); subst e0
                exact endY [] [] (rvC (resTmp rfl) rvN) trivial trivial rfl rfl rfl rfl (.free rfl)
              · replace h := cond_f h c14
                refine tri_skip ?_
                refine tri_seq ?_
                refine tri_region ?_
                refine s_mv (.inl rfl) (by conv => lhs; whnf) rfl rfl rfl ?_
                refine grd_elim h fun g15 h => ?_
                refine s_addI rfl rfl rfl rfl g15 rfl rfl rfl ?_
                refine s_mv (.inr rfl) (by conv => lhs; whnf) rfl rfl rfl ?_
                refine rt_nil ?_
                refine tri_seq ?_
                refine tri_seq ?_
                refine tri_draw mixed ?_
                refine s_mv (.inl rfl) (by conv => lhs; whnf) rfl rfl rfl ?_
                refine s_mv (.inl rfl) (by conv => lhs; whnf) rfl rfl rfl ?_
                refine s_indexF (i := v0_1) rfl rfl rfl sl37 (get_ltM hx0) rfl rfl rfl ?_
                refine s_fieldAddrF rfl rfl fd70_5 rfl rfl rfl rfl ?_
                refine s_loadF rfl rfl (rowG hx0) ty9 rfl (.inr rfl) (by conv => lhs; whnf) rfl rfl rfl ?_
                refine s_mv (.inl rfl) (by conv => lhs; whnf) rfl rfl rfl ?_
                refine bnd1_elim h fun x16 q17 h => ?_
                refine s_callN (kb := []) (ns := []) (v := .sc (.string x16)) rfl rfl cl39 (ww_markText (((((v0_0 + 1) + 1) + 1) + 1) + 1) x16 q17) rfl (.cons (.free rfl) .nil) trivial memNil .nil memNil rfl trivial memNil rfl rfl rfl rfl rfl rfl ?_
                refine s_of (st_neS rfl rfl rfl) rfl rfl rfl rfl ?_
                refine rt_nil ⟨by kernel_rfl, ?_⟩
                refine tri_cond rfl (fun c18 => ?_) (fun c18 => ?_)
                · replace h := cond_t h c18
                  refine tri_seq ?_
                  refine tri_region ?_
                  refine s_mv (.inr rfl) (v := .sc (.int .i64 (-1))) rfl rfl rfl rfl ?_
                  refine rt_nil ?_
                  refine tri_ret ?_
                  have e0 := (some1 h); subst e0
                  exact endY [] [] (rvC (resTmp rfl) rvN) trivial trivial rfl rfl rfl rfl (.free rfl)
                · replace h := cond_f h c18
                  refine tri_skip ?_
                  refine tri_region ?_
                  refine s_mv (.inl rfl) (by conv => lhs; whnf) rfl rfl rfl ?_
                  refine grd_elim h fun g19 h => ?_
                  refine s_addI rfl rfl rfl rfl g19 rfl rfl rfl ?_
                  refine s_mv (.inr rfl) (by conv => lhs; whnf) rfl rfl rfl ?_
                  refine rt_nil ?_
                  refine tri_region ?_
                  refine s_mv (.inl rfl) (by conv => lhs; whnf) rfl rfl rfl ?_
                  refine s_inc (a := v0_1) (b := 1) rfl rfl rfl rfl (by have := get_lt hx0; have := hl0; omega) rfl rfl rfl ?_
                  refine s_mv (.inr rfl) (by conv => lhs; whnf) rfl rfl rfl ?_
                  refine rt_nil ?_
                  refine Exists.intro ⟨(rs0, (((((v0_0 + 1) + 1) + 1) + 1) + 1) + 1, (v0_1 + 1)), hn0, h⟩ (And.intro (Nat.lt_succ_self _) ?_)
                  refine entX [] [] trivial trivial rfl rfl ?_
                  exact ⟨(.free rfl), (.free rfl), (.free rfl), trivial⟩
    · have he := drop_f hd0 c1; subst he
      rw [w_heldRecordS_l0] at h
      refine tri_exit ?_
      refine tri_seq ?_
      refine tri_region ?_
      refine s_mv (.inl rfl) (by conv => lhs; whnf) rfl rfl rfl ?_
      refine s_mv (.inr rfl) (by conv => lhs; whnf) rfl rfl rfl ?_
      refine rt_nil ?_
      refine tri_ret ?_
      have e0 := (some1 h); subst e0
      exact endY [] [] (rvC (resTmp rfl) rvN) trivial trivial rfl rfl rfl rfl (.free rfl)

end Go.Abs.M
