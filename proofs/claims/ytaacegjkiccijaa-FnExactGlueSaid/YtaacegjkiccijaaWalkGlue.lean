/- Walks of the functions that the law of Glue reaches: what each of them computes, where its pure function does not fail. -/
import Derived.Test.YtaacegjkiccijaaFnsGlue
import Derived.Test.YtaacegjkiccijaaChecked
namespace Go.Abs.M
open Go Go.Abs Go.Proofs
theorem byt77 : isBytes Try.prog 77 = some 5 := by kernel_rfl
theorem cl11 : callable Try.prog 11 = true := by kernel_rfl
theorem cl12 : callable Try.prog 12 = true := by kernel_rfl
theorem cl13 : callable Try.prog 13 = true := by kernel_rfl
theorem cl14 : callable Try.prog 14 = true := by kernel_rfl
theorem cl15 : callable Try.prog 15 = true := by kernel_rfl
theorem cl16 : callable Try.prog 16 = true := by kernel_rfl
theorem cl17 : callable Try.prog 17 = true := by kernel_rfl
theorem cl18 : callable Try.prog 18 = true := by kernel_rfl
theorem cl19 : callable Try.prog 19 = true := by kernel_rfl
theorem cl20 : callable Try.prog 20 = true := by kernel_rfl
theorem cl21 : callable Try.prog 21 = true := by kernel_rfl
theorem cl22 : callable Try.prog 22 = true := by kernel_rfl
theorem cl23 : callable Try.prog 23 = true := by kernel_rfl
theorem cl30 : callable Try.prog 30 = true := by kernel_rfl
theorem cl33 : callable Try.prog 33 = true := by kernel_rfl
theorem cl37 : callable Try.prog 37 = true := by kernel_rfl
theorem cl38 : callable Try.prog 38 = true := by kernel_rfl
theorem cl39 : callable Try.prog 39 = true := by kernel_rfl
theorem cl40 : callable Try.prog 40 = true := by kernel_rfl
theorem cl44 : callable Try.prog 44 = true := by kernel_rfl
theorem cl46 : callable Try.prog 46 = true := by kernel_rfl
theorem fd33_0 : fldTy Try.prog 33 0 = some (0, 0 + 1, false) := by kernel_rfl
theorem fd33_1 : fldTy Try.prog 33 1 = some (1, 0 + 1, false) := by kernel_rfl
theorem fd39_0 : fldTy Try.prog 39 0 = some (0, 0 + 1, false) := by kernel_rfl
theorem fd39_1 : fldTy Try.prog 39 1 = some (1, 0 + 1, false) := by kernel_rfl
theorem fd67_0 : fldTy Try.prog 67 0 = some (0, 0 + 1, false) := by kernel_rfl
theorem fd67_1 : fldTy Try.prog 67 1 = some (1, 0 + 1, false) := by kernel_rfl
theorem fd67_2 : fldTy Try.prog 67 2 = some (2, 0 + 1, false) := by kernel_rfl
theorem fd67_3 : fldTy Try.prog 67 3 = some (3, 0 + 1, false) := by kernel_rfl
theorem fd67_4 : fldTy Try.prog 67 4 = some (4, 0 + 1, false) := by kernel_rfl
theorem fd67_5 : fldTy Try.prog 67 5 = some (5, 0 + 1, false) := by kernel_rfl
theorem fd73_0 : fldTy Try.prog 73 0 = some (0, 0 + 1, false) := by kernel_rfl
theorem fd73_1 : fldTy Try.prog 73 1 = some (1, 0 + 1, false) := by kernel_rfl
theorem fd73_2 : fldTy Try.prog 73 2 = some (2, 0 + 1, false) := by kernel_rfl
theorem fd73_3 : fldTy Try.prog 73 3 = some (3, 0 + 1, false) := by kernel_rfl
theorem fd73_4 : fldTy Try.prog 73 4 = some (4, 0 + 1, false) := by kernel_rfl
theorem fd73_5 : fldTy Try.prog 73 5 = some (5, 0 + 1, false) := by kernel_rfl
theorem ik3 : intK Try.prog 3 = some .i64 := by kernel_rfl
theorem ik5 : intK Try.prog 5 = some .u8 := by kernel_rfl
theorem iss9 : isStr Try.prog 9 = true := by kernel_rfl
theorem sl22 : slTy Try.prog 22 = some (73, 6, 72) := by kernel_rfl
theorem sl27 : slTy Try.prog 27 = some (67, 6, 72) := by kernel_rfl
theorem sl34 : slTy Try.prog 34 = some (9, 1, 16) := by kernel_rfl
theorem sl77 : slTy Try.prog 77 = some (5, 1, 1) := by kernel_rfl
theorem ty22 : tyK Try.prog 22 = some (false, 1) := by kernel_rfl
theorem ty27 : tyK Try.prog 27 = some (false, 1) := by kernel_rfl
theorem ty3 : tyK Try.prog 3 = some (false, 1) := by kernel_rfl
theorem ty33 : tyK Try.prog 33 = some (true, 2) := by kernel_rfl
theorem ty39 : tyK Try.prog 39 = some (true, 2) := by kernel_rfl
theorem ty67 : tyK Try.prog 67 = some (true, 6) := by kernel_rfl
theorem ty73 : tyK Try.prog 73 = some (true, 6) := by kernel_rfl
theorem ty9 : tyK Try.prog 9 = some (false, 1) := by kernel_rfl
theorem zc39 : zeroC Try.prog 39 = some [.string ⟨#[]⟩, .slice none 0 0] := by kernel_rfl
theorem zc5 : zeroC Try.prog 5 = some [.int .u8 0] := by kernel_rfl
theorem zc67 : zeroC Try.prog 67 = some [.string ⟨#[]⟩, .int .i64 0, .int .i64 0, .int .i64 0, .string ⟨#[]⟩, .string ⟨#[]⟩] := by kernel_rfl
theorem zc9 : zeroC Try.prog 9 = some [.string ⟨#[]⟩] := by kernel_rfl
theorem mixed : Try.prog.follows .mixedOrders = true := by kernel_rfl
/- laws.szRecord -/

set_option maxRecDepth 4000 in
set_option maxHeartbeats 800000 in
theorem ww_szRecord (p0 : Rec) (p1 : Int) (r0 : Int) (h : w_szRecord p0 p1 = some r0) : Runs Try.prog 44 [.agg (recV p0), .sc (.int .i64 p1)] [] (.sc (.int .i64 r0)) [] := by
  unfold w_szRecord at h
  refine runsR [.tmp 4] Try.func44 rfl rfl rfl rfl ?_
  rw [Try.ntmps44]
  refine tri_seq ?_
  refine tri_region ?_
  refine s_box rfl rfl rfl rfl rfl rfl rfl ?_
  refine s_mv (.inr rfl) (v := .sc (.int .i64 0)) rfl rfl rfl rfl ?_
  refine rt_nil ?_
  refine tri_seq ?_
  refine tri_region ?_
  refine s_mv (.inl rfl) (by conv => lhs; whnf) rfl rfl rfl ?_
  refine s_fieldAddr rfl rfl fd73_0 rfl rfl rfl rfl ?_
  refine s_load rfl rfl rfl rfl ty9 rfl (.inr rfl) (by conv => lhs; whnf) rfl rfl rfl ?_
  refine s_of (st_lenS rfl rfl iss9) rfl rfl rfl rfl ?_
  refine grd_elim h fun g1 h => ?_
  refine s_subI rfl rfl rfl rfl g1 rfl rfl rfl ?_
  refine s_mv (.inr rfl) (by conv => lhs; whnf) rfl rfl rfl ?_
  refine rt_nil ?_
  refine tri_seq ?_
  refine tri_seq ?_
  refine tri_region ?_
  refine s_mv (.inl rfl) (by conv => lhs; whnf) rfl rfl rfl ?_
  refine s_of (st_lss rfl rfl rfl) rfl rfl rfl rfl ?_
  refine rt_nil ?_
  refine tri_cond rfl (fun c2 => ?_) (fun c2 => ?_)
  · replace h := cond_t h c2
    refine tri_seq ?_
    refine tri_region ?_
    refine s_mv (.inr rfl) (v := .sc (.int .i64 (-1))) rfl rfl rfl rfl ?_
    refine rt_nil ?_
    refine tri_ret ?_
    have e0 := (some1 h); subst e0
    exact endY [] [] (rvC (resTmp rfl) rvN) trivial trivial rfl rfl rfl rfl (.free rfl)
  · replace h := cond_f h c2
    refine tri_skip ?_
    refine tri_seq ?_
    refine tri_region ?_
    refine s_mv (.inl rfl) (by conv => lhs; whnf) rfl rfl rfl ?_
    refine s_fieldAddr rfl rfl fd73_4 rfl rfl rfl rfl ?_
    refine s_load rfl rfl rfl rfl ty9 rfl (.inr rfl) (by conv => lhs; whnf) rfl rfl rfl ?_
    refine s_of (st_lenS rfl rfl iss9) rfl rfl rfl rfl ?_
    refine grd_elim h fun g3 h => ?_
    refine s_subI rfl rfl rfl rfl g3 rfl rfl rfl ?_
    refine s_mv (.inr rfl) (by conv => lhs; whnf) rfl rfl rfl ?_
    refine rt_nil ?_
    refine tri_seq ?_
    refine tri_seq ?_
    refine tri_region ?_
    refine s_mv (.inl rfl) (by conv => lhs; whnf) rfl rfl rfl ?_
    refine s_of (st_lss rfl rfl rfl) rfl rfl rfl rfl ?_
    refine rt_nil ?_
    refine tri_cond rfl (fun c4 => ?_) (fun c4 => ?_)
    · replace h := cond_t h c4
      refine tri_seq ?_
      refine tri_region ?_
      refine s_mv (.inr rfl) (v := .sc (.int .i64 (-1))) rfl rfl rfl rfl ?_
      refine rt_nil ?_
      refine tri_ret ?_
      have e0 := (some1 h); subst e0
      exact endY [] [] (rvC (resTmp rfl) rvN) trivial trivial rfl rfl rfl rfl (.free rfl)
    · replace h := cond_f h c4
      refine tri_skip ?_
      refine tri_seq ?_
      refine tri_region ?_
      refine s_mv (.inl rfl) (by conv => lhs; whnf) rfl rfl rfl ?_
      refine s_fieldAddr rfl rfl fd73_5 rfl rfl rfl rfl ?_
      refine s_load rfl rfl rfl rfl ty9 rfl (.inr rfl) (by conv => lhs; whnf) rfl rfl rfl ?_
      refine s_of (st_lenS rfl rfl iss9) rfl rfl rfl rfl ?_
      refine grd_elim h fun g5 h => ?_
      refine s_subI rfl rfl rfl rfl g5 rfl rfl rfl ?_
      refine s_mv (.inr rfl) (by conv => lhs; whnf) rfl rfl rfl ?_
      refine rt_nil ?_
      refine tri_seq ?_
      refine tri_seq ?_
      refine tri_region ?_
      refine s_mv (.inl rfl) (by conv => lhs; whnf) rfl rfl rfl ?_
      refine s_of (st_lss rfl rfl rfl) rfl rfl rfl rfl ?_
      refine rt_nil ?_
      refine tri_cond rfl (fun c6 => ?_) (fun c6 => ?_)
      · replace h := cond_t h c6
        refine tri_seq ?_
        refine tri_region ?_
        refine s_mv (.inr rfl) (v := .sc (.int .i64 (-1))) rfl rfl rfl rfl ?_
        refine rt_nil ?_
        refine tri_ret ?_
        have e0 := (some1 h); subst e0
        exact endY [] [] (rvC (resTmp rfl) rvN) trivial trivial rfl rfl rfl rfl (.free rfl)
      · replace h := cond_f h c6
        refine tri_skip ?_
        refine tri_seq ?_
        refine tri_region ?_
        refine s_mv (.inl rfl) (by conv => lhs; whnf) rfl rfl rfl ?_
        refine s_mv (.inr rfl) (by conv => lhs; whnf) rfl rfl rfl ?_
        refine rt_nil ?_
        refine tri_ret ?_
        have e0 := (some1 h); subst e0
        exact endY [] [] (rvC (resTmp rfl) rvN) trivial trivial rfl rfl rfl rfl (.free rfl)

/- laws.szRecordS -/
def inv_w_szRecordS_0 (p0 : List Rec) (v0_0 : Int) (v0_1 : Nat) : St := mkT 27 [(0, .lst 6 (List.map recV p0)), (1, .sc (.int .i64 v0_0)), (5, .sc (.int .i64 (v0_1 : Int)))] []
set_option maxRecDepth 4000 in
set_option maxHeartbeats 800000 in
theorem ww_szRecordS (p0 : List Rec) (p1 : Int) (r0 : Int) (h : w_szRecordS p0 p1 = some r0) : Runs Try.prog 30 [.lst 6 (List.map recV p0), .sc (.int .i64 p1)] [] (.sc (.int .i64 r0)) [] := by
  unfold w_szRecordS at h
  refine runsR [.tmp 4] Try.func30 rfl rfl rfl rfl ?_
  rw [Try.ntmps30]
  refine tri_seq ?_
  refine tri_region ?_
  refine s_mv (.inr rfl) (v := .sc (.int .i64 0)) rfl rfl rfl rfl ?_
  refine rt_nil ?_
  refine tri_seq ?_
  refine tri_region ?_
  refine s_mv (.inl rfl) (by conv => lhs; whnf) rfl rfl rfl ?_
  refine s_mv (.inl rfl) (by conv => lhs; whnf) rfl rfl rfl ?_
  refine s_lenL rfl sl22 rfl rfl rfl rfl ?_
  refine grd_elim h fun g1 h => ?_
  refine s_subI rfl rfl rfl rfl g1 rfl rfl rfl ?_
  refine s_mv (.inr rfl) (by conv => lhs; whnf) rfl rfl rfl ?_
  refine rt_nil ?_
  refine tri_seq ?_
  refine tri_seq ?_
  refine tri_region ?_
  refine s_mv (.inl rfl) (by conv => lhs; whnf) rfl rfl rfl ?_
  refine s_of (st_lss rfl rfl rfl) rfl rfl rfl rfl ?_
  refine rt_nil ?_
  refine tri_cond rfl (fun c2 => ?_) (fun c2 => ?_)
  · replace h := cond_t h c2
    refine tri_seq ?_
    refine tri_region ?_
    refine s_mv (.inr rfl) (v := .sc (.int .i64 (-1))) rfl rfl rfl rfl ?_
    refine rt_nil ?_
    refine tri_ret ?_
    have e0 := (some1 h); subst e0
    exact endY [] [] (rvC (resTmp rfl) rvN) trivial trivial rfl rfl rfl rfl (.free rfl)
  · replace h := cond_f h c2
    refine tri_skip ?_
    refine tri_seq ?_
    refine tri_seq ?_
    refine tri_region ?_
    refine s_mv (.inr rfl) (v := .sc (.int .i64 0)) rfl rfl rfl rfl ?_
    refine rt_nil ?_
    refine tri_block ?_
    refine tri_lstM 0 rfl (fun hl0 => ?_)
    refine tri_loop (ι := { p : (List Rec) × Int × Nat // p0.drop p.2.2 = p.1 ∧ w_szRecordS_l0 p.1 p.2.1 p.2.2 = some r0 }) (fun p => inv_w_szRecordS_0 p0 p.1.2.1 p.1.2.2) (fun p => p.1.1.length) ⟨(p0, p1 - (p0.length : Int), 0), rfl, h⟩ ?_ ?_
    · skip
      refine entX [] [] trivial trivial rfl rfl ?_
      exact ⟨(.free rfl), (.free rfl), (.free rfl), trivial⟩
    · rintro ⟨⟨lrs0, v0_0, v0_1⟩, hd0, h⟩
      replace hd0 : p0.drop v0_1 = lrs0 := hd0
      replace h : w_szRecordS_l0 lrs0 v0_0 v0_1 = some r0 := h
      show Tri _ _ _ (inv_w_szRecordS_0 p0 v0_0 v0_1)
      refine tri_seq ?_
      refine tri_seq ?_
      refine tri_region ?_
      refine s_mv (.inl rfl) (by conv => lhs; whnf) rfl rfl rfl ?_
      refine s_mv (.inl rfl) (by conv => lhs; whnf) rfl rfl rfl ?_
      refine s_lenL rfl sl22 rfl rfl rfl rfl ?_
      refine s_of (st_lss rfl rfl rfl) rfl rfl rfl rfl ?_
      refine rt_nil ?_
      refine tri_cond rfl (fun c3 => ?_) (fun c3 => ?_)
      · refine drop_elim hd0 c3 fun e0 rs0 he hx0 hn0 => ?_
        subst he
        rw [w_szRecordS_l0] at h
        refine tri_skip ?_
        refine tri_seq ?_
        refine tri_block ?_
        refine tri_seq ?_
        refine tri_region ?_
        refine s_mv (.inl rfl) (by conv => lhs; whnf) rfl rfl rfl ?_
        refine s_mv (.inl rfl) (by conv => lhs; whnf) rfl rfl rfl ?_
        refine s_indexF (i := v0_1) rfl rfl rfl sl22 (get_ltM hx0) rfl rfl rfl ?_
        refine s_loadFR rfl rfl (rowG hx0) ty73 rfl rfl rfl ?_
        refine s_mv (.inl rfl) (by conv => lhs; whnf) rfl rfl rfl ?_
        refine bnd1_elim h fun x4 q5 h => ?_
        refine s_callN (kb := []) (ns := []) (v := .sc (.int .i64 x4)) rfl rfl cl44 (ww_szRecord e0 v0_0 x4 q5) rfl (.cons (relAgg rfl) (.cons (.free rfl) .nil)) trivial memNil .nil memNil rfl trivial memNil rfl rfl rfl rfl rfl rfl ?_
        refine s_mv (.inr rfl) (by conv => lhs; whnf) rfl rfl rfl ?_
        refine rt_nil ?_
        refine tri_seq ?_
        refine tri_region ?_
        refine s_mv (.inl rfl) (by conv => lhs; whnf) rfl rfl rfl ?_
        refine s_of (st_lss rfl rfl rfl) rfl rfl rfl rfl ?_
        refine rt_nil ?_
        refine tri_cond rfl (fun c6 => ?_) (fun c6 => ?_)
        · replace h := cond_t h c6
          refine tri_seq ?_
          refine tri_region ?_
          refine s_mv (.inr rfl) (v := .sc (.int .i64 (-1))) rfl rfl rfl rfl ?_
          refine rt_nil ?_
          refine tri_ret ?_
          have e0 := (some1 h); subst e0
          exact endY [] [] (rvC (resTmp rfl) rvN) trivial trivial rfl rfl rfl rfl (.free rfl)
        · replace h := cond_f h c6
          refine tri_skip ?_
          refine tri_region ?_
          refine s_mv (.inl rfl) (by conv => lhs; whnf) rfl rfl rfl ?_
          refine s_inc (a := v0_1) (b := 1) rfl rfl rfl rfl (by have := get_lt hx0; have := hl0; omega) rfl rfl rfl ?_
          refine s_mv (.inr rfl) (by conv => lhs; whnf) rfl rfl rfl ?_
          refine rt_nil ?_
          refine Exists.intro ⟨(rs0, x4, (v0_1 + 1)), hn0, h⟩ (And.intro (Nat.lt_succ_self _) ?_)
          refine entX [] [] trivial trivial rfl rfl ?_
          exact ⟨(.free rfl), (.free rfl), (.free rfl), trivial⟩
      · have he := drop_f hd0 c3; subst he
        rw [w_szRecordS_l0] at h
        refine tri_exit ?_
        refine tri_seq ?_
        refine tri_region ?_
        refine s_mv (.inl rfl) (by conv => lhs; whnf) rfl rfl rfl ?_
        refine s_mv (.inr rfl) (by conv => lhs; whnf) rfl rfl rfl ?_
        refine rt_nil ?_
        refine tri_ret ?_
        have e0 := (some1 h); subst e0
        exact endY [] [] (rvC (resTmp rfl) rvN) trivial trivial rfl rfl rfl rfl (.free rfl)

/- laws.szZone -/

set_option maxRecDepth 4000 in
set_option maxHeartbeats 800000 in
theorem ww_szZone (p0 : MZone) (p1 : Int) (r0 : Int) (h : w_szZone p0 p1 = some r0) : Runs Try.prog 11 [.agg (mZoneV p0), .sc (.int .i64 p1)] [] (.sc (.int .i64 r0)) [] := by
  unfold w_szZone at h
  refine runsR [.tmp 4] Try.func11 rfl rfl rfl rfl ?_
  rw [Try.ntmps11]
  refine tri_seq ?_
  refine tri_region ?_
  refine s_box rfl rfl rfl rfl rfl rfl rfl ?_
  refine s_mv (.inr rfl) (v := .sc (.int .i64 0)) rfl rfl rfl rfl ?_
  refine rt_nil ?_
  refine tri_seq ?_
  refine tri_region ?_
  refine s_mv (.inl rfl) (by conv => lhs; whnf) rfl rfl rfl ?_
  refine s_fieldAddr rfl rfl fd33_0 rfl rfl rfl rfl ?_
  refine s_load rfl rfl rfl rfl ty9 rfl (.inr rfl) (by conv => lhs; whnf) rfl rfl rfl ?_
  refine s_of (st_lenS rfl rfl iss9) rfl rfl rfl rfl ?_
  refine grd_elim h fun g1 h => ?_
  refine s_subI rfl rfl rfl rfl g1 rfl rfl rfl ?_
  refine s_mv (.inr rfl) (by conv => lhs; whnf) rfl rfl rfl ?_
  refine rt_nil ?_
  refine tri_seq ?_
  refine tri_seq ?_
  refine tri_region ?_
  refine s_mv (.inl rfl) (by conv => lhs; whnf) rfl rfl rfl ?_
  refine s_of (st_lss rfl rfl rfl) rfl rfl rfl rfl ?_
  refine rt_nil ?_
  refine tri_cond rfl (fun c2 => ?_) (fun c2 => ?_)
  · replace h := cond_t h c2
    refine tri_seq ?_
    refine tri_region ?_
    refine s_mv (.inr rfl) (v := .sc (.int .i64 (-1))) rfl rfl rfl rfl ?_
    refine rt_nil ?_
    refine tri_ret ?_
    have e0 := (some1 h); subst e0
    exact endY [] [] (rvC (resTmp rfl) rvN) trivial trivial rfl rfl rfl rfl (.free rfl)
  · replace h := cond_f h c2
    refine tri_skip ?_
    refine tri_seq ?_
    refine tri_region ?_
    refine s_fieldAddr rfl rfl fd33_1 rfl rfl rfl rfl ?_
    refine s_load rfl rfl rfl rfl ty22 rfl (.inr rfl) (by conv => lhs; whnf) rfl rfl rfl ?_
    refine s_mv (.inl rfl) (by conv => lhs; whnf) rfl rfl rfl ?_
    refine bnd1_elim h fun x3 q4 h => ?_
    refine s_callN (kb := []) (ns := []) (v := .sc (.int .i64 x3)) rfl rfl cl30 (ww_szRecordS p0.l (p1 - (p0.apex.size : Int)) x3 q4) rfl (.cons (.free rfl) (.cons (.free rfl) .nil)) trivial memNil .nil memNil rfl trivial memNil rfl rfl rfl rfl rfl rfl ?_
    refine s_mv (.inr rfl) (by conv => lhs; whnf) rfl rfl rfl ?_
    refine rt_nil ?_
    refine tri_seq ?_
    refine tri_seq ?_
    refine tri_region ?_
    refine s_mv (.inl rfl) (by conv => lhs; whnf) rfl rfl rfl ?_
    refine s_of (st_lss rfl rfl rfl) rfl rfl rfl rfl ?_
    refine rt_nil ?_
    refine tri_cond rfl (fun c5 => ?_) (fun c5 => ?_)
    · replace h := cond_t h c5
      refine tri_seq ?_
      refine tri_region ?_
      refine s_mv (.inr rfl) (v := .sc (.int .i64 (-1))) rfl rfl rfl rfl ?_
      refine rt_nil ?_
      refine tri_ret ?_
      have e0 := (some1 h); subst e0
      exact endY [] [] (rvC (resTmp rfl) rvN) trivial trivial rfl rfl rfl rfl (.free rfl)
    · replace h := cond_f h c5
      refine tri_skip ?_
      refine tri_seq ?_
      refine tri_region ?_
      refine s_mv (.inl rfl) (by conv => lhs; whnf) rfl rfl rfl ?_
      refine s_mv (.inr rfl) (by conv => lhs; whnf) rfl rfl rfl ?_
      refine rt_nil ?_
      refine tri_ret ?_
      have e0 := (some1 h); subst e0
      exact endY [] [] (rvC (resTmp rfl) rvN) trivial trivial rfl rfl rfl rfl (.free rfl)

/- laws.szStringS -/
def inv_w_szStringS_0 (p0 : List ByteArray) (v0_0 : Int) (v0_1 : Nat) : St := mkT 28 [(0, .lst 1 (List.map strV p0)), (1, .sc (.int .i64 v0_0)), (5, .sc (.int .i64 (v0_1 : Int)))] []
set_option maxRecDepth 4000 in
set_option maxHeartbeats 800000 in
theorem ww_szStringS (p0 : List ByteArray) (p1 : Int) (r0 : Int) (h : w_szStringS p0 p1 = some r0) : Runs Try.prog 12 [.lst 1 (List.map strV p0), .sc (.int .i64 p1)] [] (.sc (.int .i64 r0)) [] := by
  unfold w_szStringS at h
  refine runsR [.tmp 4] Try.func12 rfl rfl rfl rfl ?_
  rw [Try.ntmps12]
  refine tri_seq ?_
  refine tri_region ?_
  refine s_mv (.inr rfl) (v := .sc (.int .i64 0)) rfl rfl rfl rfl ?_
  refine rt_nil ?_
  refine tri_seq ?_
  refine tri_region ?_
  refine s_mv (.inl rfl) (by conv => lhs; whnf) rfl rfl rfl ?_
  refine s_mv (.inl rfl) (by conv => lhs; whnf) rfl rfl rfl ?_
  refine s_lenL rfl sl34 rfl rfl rfl rfl ?_
  refine grd_elim h fun g1 h => ?_
  refine s_subI rfl rfl rfl rfl g1 rfl rfl rfl ?_
  refine s_mv (.inr rfl) (by conv => lhs; whnf) rfl rfl rfl ?_
  refine rt_nil ?_
  refine tri_seq ?_
  refine tri_seq ?_
  refine tri_region ?_
  refine s_mv (.inl rfl) (by conv => lhs; whnf) rfl rfl rfl ?_
  refine s_of (st_lss rfl rfl rfl) rfl rfl rfl rfl ?_
  refine rt_nil ?_
  refine tri_cond rfl (fun c2 => ?_) (fun c2 => ?_)
  · replace h := cond_t h c2
    refine tri_seq ?_
    refine tri_region ?_
    refine s_mv (.inr rfl) (v := .sc (.int .i64 (-1))) rfl rfl rfl rfl ?_
    refine rt_nil ?_
    refine tri_ret ?_
    have e0 := (some1 h); subst e0
    exact endY [] [] (rvC (resTmp rfl) rvN) trivial trivial rfl rfl rfl rfl (.free rfl)
  · replace h := cond_f h c2
    refine tri_skip ?_
    refine tri_seq ?_
    refine tri_seq ?_
    refine tri_region ?_
    refine s_mv (.inr rfl) (v := .sc (.int .i64 0)) rfl rfl rfl rfl ?_
    refine rt_nil ?_
    refine tri_block ?_
    refine tri_lstM 0 rfl (fun hl0 => ?_)
    refine tri_loop (ι := { p : (List ByteArray) × Int × Nat // p0.drop p.2.2 = p.1 ∧ w_szStringS_l0 p.1 p.2.1 p.2.2 = some r0 }) (fun p => inv_w_szStringS_0 p0 p.1.2.1 p.1.2.2) (fun p => p.1.1.length) ⟨(p0, p1 - (p0.length : Int), 0), rfl, h⟩ ?_ ?_
    · skip
      refine entX [] [] trivial trivial rfl rfl ?_
      exact ⟨(.free rfl), (.free rfl), (.free rfl), trivial⟩
    · rintro ⟨⟨lrs0, v0_0, v0_1⟩, hd0, h⟩
      replace hd0 : p0.drop v0_1 = lrs0 := hd0
      replace h : w_szStringS_l0 lrs0 v0_0 v0_1 = some r0 := h
      show Tri _ _ _ (inv_w_szStringS_0 p0 v0_0 v0_1)
      refine tri_seq ?_
      refine tri_seq ?_
      refine tri_region ?_
      refine s_mv (.inl rfl) (by conv => lhs; whnf) rfl rfl rfl ?_
      refine s_mv (.inl rfl) (by conv => lhs; whnf) rfl rfl rfl ?_
      refine s_lenL rfl sl34 rfl rfl rfl rfl ?_
      refine s_of (st_lss rfl rfl rfl) rfl rfl rfl rfl ?_
      refine rt_nil ?_
      refine tri_cond rfl (fun c3 => ?_) (fun c3 => ?_)
      · refine drop_elim hd0 c3 fun e0 rs0 he hx0 hn0 => ?_
        subst he
        rw [w_szStringS_l0] at h
        refine tri_skip ?_
        refine tri_seq ?_
        refine tri_block ?_
        refine tri_seq ?_
        refine tri_region ?_
        refine s_mv (.inl rfl) (by conv => lhs; whnf) rfl rfl rfl ?_
        refine s_mv (.inl rfl) (by conv => lhs; whnf) rfl rfl rfl ?_
        refine s_mv (.inl rfl) (by conv => lhs; whnf) rfl rfl rfl ?_
        refine s_indexF (i := v0_1) rfl rfl rfl sl34 (get_ltM hx0) rfl rfl rfl ?_
        refine s_loadF rfl rfl (rowG hx0) ty9 rfl (.inr rfl) (by conv => lhs; whnf) rfl rfl rfl ?_
        refine s_of (st_lenS rfl rfl iss9) rfl rfl rfl rfl ?_
        refine grd_elim h fun g4 h => ?_
        refine s_subI rfl rfl rfl rfl g4 rfl rfl rfl ?_
        refine s_mv (.inr rfl) (by conv => lhs; whnf) rfl rfl rfl ?_
        refine rt_nil ?_
        refine tri_seq ?_
        refine tri_region ?_
        refine s_mv (.inl rfl) (by conv => lhs; whnf) rfl rfl rfl ?_
        refine s_of (st_lss rfl rfl rfl) rfl rfl rfl rfl ?_
        refine rt_nil ?_
        refine tri_cond rfl (fun c5 => ?_) (fun c5 => ?_)
        · replace h := cond_t h c5
          refine tri_seq ?_
          refine tri_region ?_
          refine s_mv (.inr rfl) (v := .sc (.int .i64 (-1))) rfl rfl rfl rfl ?_
          refine rt_nil ?_
          refine tri_ret ?_
          have e0 := (some1 h); subst e0
          exact endY [] [] (rvC (resTmp rfl) rvN) trivial trivial rfl rfl rfl rfl (.free rfl)
        · replace h := cond_f h c5
          refine tri_skip ?_
          refine tri_region ?_
          refine s_mv (.inl rfl) (by conv => lhs; whnf) rfl rfl rfl ?_
          refine s_inc (a := v0_1) (b := 1) rfl rfl rfl rfl (by have := get_lt hx0; have := hl0; omega) rfl rfl rfl ?_
          refine s_mv (.inr rfl) (by conv => lhs; whnf) rfl rfl rfl ?_
          refine rt_nil ?_
          refine Exists.intro ⟨(rs0, v0_0 - (e0.size : Int), (v0_1 + 1)), hn0, h⟩ (And.intro (Nat.lt_succ_self _) ?_)
          refine entX [] [] trivial trivial rfl rfl ?_
          exact ⟨(.free rfl), (.free rfl), (.free rfl), trivial⟩
      · have he := drop_f hd0 c3; subst he
        rw [w_szStringS_l0] at h
        refine tri_exit ?_
        refine tri_seq ?_
        refine tri_region ?_
        refine s_mv (.inl rfl) (by conv => lhs; whnf) rfl rfl rfl ?_
        refine s_mv (.inr rfl) (by conv => lhs; whnf) rfl rfl rfl ?_
        refine rt_nil ?_
        refine tri_ret ?_
        have e0 := (some1 h); subst e0
        exact endY [] [] (rvC (resTmp rfl) rvN) trivial trivial rfl rfl rfl rfl (.free rfl)

/- laws.toRecord -/

set_option maxRecDepth 4000 in
set_option maxHeartbeats 800000 in
theorem ww_toRecord (p0 : Rec) (r0 : Rec) (h : w_toRecord p0 = some r0) : Runs Try.prog 46 [.agg (recV p0)] [] (.agg (recV r0)) [] := by
  unfold w_toRecord at h
  refine runsR [.cell 2 67] Try.func46 rfl rfl rfl rfl ?_
  rw [Try.ntmps46]
  refine tri_seq ?_
  refine tri_region ?_
  refine s_box rfl rfl rfl rfl rfl rfl rfl ?_
  refine s_alloc rfl rfl rfl zc67 rfl rfl rfl rfl rfl ?_
  refine rt_nil ?_
  refine tri_seq ?_
  refine tri_region ?_
  refine s_alloc rfl rfl rfl zc67 rfl rfl rfl rfl rfl ?_
  refine rt_nil ?_
  refine tri_seq ?_
  refine tri_region ?_
  refine s_fieldAddr rfl rfl fd73_0 rfl rfl rfl rfl ?_
  refine s_load rfl rfl rfl rfl ty9 rfl (.inr rfl) (by conv => lhs; whnf) rfl rfl rfl ?_
  refine s_fieldAddr rfl rfl fd67_0 rfl rfl rfl rfl ?_
  refine s_store (rows' := [[.sc (.string p0.name), .sc (.int .i64 0), .sc (.int .i64 0), .sc (.int .i64 0), .sc (.string (⟨#[]⟩ : ByteArray)), .sc (.string (⟨#[]⟩ : ByteArray))]]) rfl rfl rfl rfl ty9 rfl rfl rfl rfl rfl rfl ?_
  refine rt_nil ?_
  refine tri_seq ?_
  refine tri_region ?_
  refine s_fieldAddr rfl rfl fd73_1 rfl rfl rfl rfl ?_
  refine s_load rfl rfl rfl rfl ty3 rfl (.inr rfl) (by conv => lhs; whnf) rfl rfl rfl ?_
  refine s_fieldAddr rfl rfl fd67_1 rfl rfl rfl rfl ?_
  refine s_store (rows' := [[.sc (.string p0.name), .sc (.int .i64 p0.ty), .sc (.int .i64 0), .sc (.int .i64 0), .sc (.string (⟨#[]⟩ : ByteArray)), .sc (.string (⟨#[]⟩ : ByteArray))]]) rfl rfl rfl rfl ty3 rfl rfl rfl rfl rfl rfl ?_
  refine rt_nil ?_
  refine tri_seq ?_
  refine tri_region ?_
  refine s_fieldAddr rfl rfl fd73_2 rfl rfl rfl rfl ?_
  refine s_load rfl rfl rfl rfl ty3 rfl (.inr rfl) (by conv => lhs; whnf) rfl rfl rfl ?_
  refine s_fieldAddr rfl rfl fd67_2 rfl rfl rfl rfl ?_
  refine s_store (rows' := [[.sc (.string p0.name), .sc (.int .i64 p0.ty), .sc (.int .i64 p0.ttl), .sc (.int .i64 0), .sc (.string (⟨#[]⟩ : ByteArray)), .sc (.string (⟨#[]⟩ : ByteArray))]]) rfl rfl rfl rfl ty3 rfl rfl rfl rfl rfl rfl ?_
  refine rt_nil ?_
  refine tri_seq ?_
  refine tri_region ?_
  refine s_fieldAddr rfl rfl fd73_3 rfl rfl rfl rfl ?_
  refine s_load rfl rfl rfl rfl ty3 rfl (.inr rfl) (by conv => lhs; whnf) rfl rfl rfl ?_
  refine s_fieldAddr rfl rfl fd67_3 rfl rfl rfl rfl ?_
  refine s_store (rows' := [[.sc (.string p0.name), .sc (.int .i64 p0.ty), .sc (.int .i64 p0.ttl), .sc (.int .i64 p0.n), .sc (.string (⟨#[]⟩ : ByteArray)), .sc (.string (⟨#[]⟩ : ByteArray))]]) rfl rfl rfl rfl ty3 rfl rfl rfl rfl rfl rfl ?_
  refine rt_nil ?_
  refine tri_seq ?_
  refine tri_region ?_
  refine s_fieldAddr rfl rfl fd73_4 rfl rfl rfl rfl ?_
  refine s_load rfl rfl rfl rfl ty9 rfl (.inr rfl) (by conv => lhs; whnf) rfl rfl rfl ?_
  refine s_fieldAddr rfl rfl fd67_4 rfl rfl rfl rfl ?_
  refine s_store (rows' := [[.sc (.string p0.name), .sc (.int .i64 p0.ty), .sc (.int .i64 p0.ttl), .sc (.int .i64 p0.n), .sc (.string p0.host), .sc (.string (⟨#[]⟩ : ByteArray))]]) rfl rfl rfl rfl ty9 rfl rfl rfl rfl rfl rfl ?_
  refine rt_nil ?_
  refine tri_seq ?_
  refine tri_region ?_
  refine s_fieldAddr rfl rfl fd73_5 rfl rfl rfl rfl ?_
  refine s_load rfl rfl rfl rfl ty9 rfl (.inr rfl) (by conv => lhs; whnf) rfl rfl rfl ?_
  refine s_fieldAddr rfl rfl fd67_5 rfl rfl rfl rfl ?_
  refine s_store (rows' := [[.sc (.string p0.name), .sc (.int .i64 p0.ty), .sc (.int .i64 p0.ttl), .sc (.int .i64 p0.n), .sc (.string p0.host), .sc (.string p0.text)]]) rfl rfl rfl rfl ty9 rfl rfl rfl rfl rfl rfl ?_
  refine rt_nil ?_
  refine tri_seq ?_
  refine tri_region ?_
  refine s_loadR rfl rfl rfl rfl ty67 rfl rfl rfl ?_
  refine s_storeB rfl rfl rfl ty67 rfl rfl rfl rfl rfl ?_
  refine rt_nil ?_
  refine tri_ret ?_
  have e0 := (some1 h); subst e0
  exact endY [] [] (rvC (resCell rfl rfl ty67) rvN) trivial trivial rfl rfl rfl rfl (cvAgg rfl)

/- laws.toRecordS -/
def inv_w_toRecordS_0 (p0 : List Rec) (v0_0 : List Rec) (v0_1 : Nat) : St := mkT 23 [(0, .lst 6 (List.map recV p0)), (3, .ref (7, 0) 0 v0_0.length), (4, .sc (.int .i64 (v0_1 : Int)))] [((7, 0), some ⟨67, 6, List.map recV v0_0, false, true⟩)]
set_option maxRecDepth 4000 in
set_option maxHeartbeats 800000 in
theorem ww_toRecordS (p0 : List Rec) (r0 : List Rec) (h : w_toRecordS p0 = some r0) : Runs Try.prog 33 [.lst 6 (List.map recV p0)] [] (.own 67 6 (List.map recV r0)) [] := by
  unfold w_toRecordS at h
  refine runsR [.tmp 2] Try.func33 rfl rfl rfl rfl ?_
  rw [Try.ntmps33]
  refine tri_seq ?_
  refine tri_region ?_
  refine s_mv (.inr rfl) (v := .nils) rfl rfl rfl rfl ?_
  refine rt_nil ?_
  refine tri_seq ?_
  refine tri_region ?_
  refine s_mv (.inl rfl) (by conv => lhs; whnf) rfl rfl rfl ?_
  refine s_lenL rfl sl22 rfl rfl rfl rfl ?_
  refine grd_elim h fun g1 h => ?_
  refine s_makeL (f := recV) (a := Rec.mk (⟨#[]⟩ : ByteArray) 0 0 0 (⟨#[]⟩ : ByteArray) (⟨#[]⟩ : ByteArray)) rfl rfl rfl rfl rfl sl27 zc67 rfl rfl rfl rfl g1.1 g1.2 rfl rfl rfl ?_
  refine s_mv (.inr rfl) (by conv => lhs; whnf) rfl rfl rfl ?_
  refine rt_nil ?_
  refine tri_seq ?_
  refine tri_seq ?_
  refine tri_region ?_
  refine s_mv (.inr rfl) (v := .sc (.int .i64 0)) rfl rfl rfl rfl ?_
  refine rt_nil ?_
  refine tri_block ?_
  refine tri_lstM 0 rfl (fun hl0 => ?_)
  refine tri_loop (ι := { p : (List Rec) × (List Rec) × Nat // p0.drop p.2.2 = p.1 ∧ w_toRecordS_l0 p.1 p.2.1 p.2.2 = some r0 }) (fun p => inv_w_toRecordS_0 p0 p.1.2.1 p.1.2.2) (fun p => p.1.1.length) ⟨(p0, List.replicate (p0.length : Int).toNat (Rec.mk (⟨#[]⟩ : ByteArray) 0 0 0 (⟨#[]⟩ : ByteArray) (⟨#[]⟩ : ByteArray)), 0), rfl, h⟩ ?_ ?_
  · skip
    refine entX [((7, 0), ⟨67, 6, List.map recV (List.replicate (p0.length : Int).toNat (Rec.mk (⟨#[]⟩ : ByteArray) 0 0 0 (⟨#[]⟩ : ByteArray) (⟨#[]⟩ : ByteArray))), false, true⟩, some (7, 0))] [] ⟨⟨rfl, _, rfl, rfl, rfl, rfl, id, rowsCv_eq rfl (allFree_map recV_free), rowsZ_map recV_len⟩, trivial⟩ trivial rfl rfl ?_
    exact ⟨(.free rfl), (.ref rfl), (.free rfl), trivial⟩
  · rintro ⟨⟨lrs0, v0_0, v0_1⟩, hd0, h⟩
    replace hd0 : p0.drop v0_1 = lrs0 := hd0
    replace h : w_toRecordS_l0 lrs0 v0_0 v0_1 = some r0 := h
    show Tri _ _ _ (inv_w_toRecordS_0 p0 v0_0 v0_1)
    refine tri_seq ?_
    refine tri_seq ?_
    refine tri_region ?_
    refine s_mv (.inl rfl) (by conv => lhs; whnf) rfl rfl rfl ?_
    refine s_mv (.inl rfl) (by conv => lhs; whnf) rfl rfl rfl ?_
    refine s_lenL rfl sl22 rfl rfl rfl rfl ?_
    refine s_of (st_lss rfl rfl rfl) rfl rfl rfl rfl ?_
    refine rt_nil ?_
    refine tri_cond rfl (fun c2 => ?_) (fun c2 => ?_)
    · refine drop_elim hd0 c2 fun e0 rs0 he hx0 hn0 => ?_
      subst he
      rw [w_toRecordS_l0] at h
      refine tri_skip ?_
      refine tri_seq ?_
      refine tri_block ?_
      refine tri_region ?_
      refine s_mv (.inl rfl) (by conv => lhs; whnf) rfl rfl rfl ?_
      refine s_mv (.inl rfl) (by conv => lhs; whnf) rfl rfl rfl ?_
      refine s_mv (.inl rfl) (by conv => lhs; whnf) rfl rfl rfl ?_
      refine s_mv (.inl rfl) (by conv => lhs; whnf) rfl rfl rfl ?_
      refine s_indexF (i := v0_1) rfl rfl rfl sl22 (get_ltM hx0) rfl rfl rfl ?_
      refine s_loadFR rfl rfl (rowG hx0) ty73 rfl rfl rfl ?_
      refine bnd1_elim h fun x3 q4 h => ?_
      refine s_callN (kb := []) (ns := []) (v := .agg (recV x3)) rfl rfl cl46 (ww_toRecord e0 x3 q4) rfl (.cons (relAgg rfl) .nil) trivial memNil .nil memNil rfl trivial memNil rfl rfl rfl rfl rfl rfl ?_
      refine bnd1_elim h fun x5 q6 h => ?_
      have q6a := (idx_some q6).1; have q6b := (idx_some q6).2
      refine s_indexZ rfl rfl rfl rfl sl27 rfl q6a (get_lt q6b) rfl rfl rfl ?_
      refine s_storeL (x' := x3) rfl rfl rfl q6b ty67 rfl rfl rfl rfl rfl rfl ?_
      refine rt_nil ?_
      refine tri_region ?_
      refine s_mv (.inl rfl) (by conv => lhs; whnf) rfl rfl rfl ?_
      refine s_inc (a := v0_1) (b := 1) rfl rfl rfl rfl (by have := get_lt hx0; have := hl0; omega) rfl rfl rfl ?_
      refine s_mv (.inr rfl) (by conv => lhs; whnf) rfl rfl rfl ?_
      refine rt_nil ?_
      refine Exists.intro ⟨(rs0, v0_0.set ((v0_1 : Int).toNat) x3, (v0_1 + 1)), hn0, h⟩ (And.intro (Nat.lt_succ_self _) ?_)
      refine entX [((7, 0), ⟨67, 6, List.map recV (v0_0.set ((v0_1 : Int).toNat) x3), false, true⟩, some (7, 0))] [] ⟨⟨rfl, _, rfl, rfl, rfl, rfl, id, rowsCv_eq rfl (allFree_map recV_free), rowsZ_map recV_len⟩, trivial⟩ trivial rfl rfl ?_
      exact ⟨(.free rfl), (cvRefLen rfl (by simp only [List.length_set])), (.free rfl), trivial⟩
    · have he := drop_f hd0 c2; subst he
      rw [w_toRecordS_l0] at h
      refine tri_exit ?_
      refine tri_seq ?_
      refine tri_region ?_
      refine s_mv (.inl rfl) (by conv => lhs; whnf) rfl rfl rfl ?_
      refine s_mv (.inr rfl) (by conv => lhs; whnf) rfl rfl rfl ?_
      refine rt_nil ?_
      refine tri_ret ?_
      have e0 := (some1 h); subst e0
      exact endY (v' := .ref (2000, 0) 0 v0_0.length) [((2000, 0), ⟨67, 6, List.map recV v0_0, false, true⟩, some (7, 0))] [] (rvC (resTmp rfl) rvN) ⟨⟨rfl, _, rfl, rfl, rfl, rfl, id, rowsCv_eq rfl (allFree_map recV_free), rowsZ_map recV_len⟩, trivial⟩ trivial rfl rfl (by kernel_rfl) (by simp only [V.mat, V.mat1, V.mat0, matL, matT, List.length_map]) (.ref rfl)

/- laws.toZone -/

set_option maxRecDepth 4000 in
set_option maxHeartbeats 800000 in
theorem ww_toZone (p0 : MZone) (r0 : MZone) (h : w_toZone p0 = some r0) : Runs Try.prog 14 [.agg (mZoneV p0)] [] (.agg [.sc (.string r0.apex), .own 67 6 (List.map recV r0.l)]) [] := by
  unfold w_toZone at h
  refine runsR [.cell 2 39] Try.func14 rfl rfl rfl rfl ?_
  rw [Try.ntmps14]
  refine tri_seq ?_
  refine tri_region ?_
  refine s_box rfl rfl rfl rfl rfl rfl rfl ?_
  refine s_alloc rfl rfl rfl zc39 rfl rfl rfl rfl rfl ?_
  refine rt_nil ?_
  refine tri_seq ?_
  refine tri_region ?_
  refine s_alloc rfl rfl rfl zc39 rfl rfl rfl rfl rfl ?_
  refine rt_nil ?_
  refine tri_seq ?_
  refine tri_region ?_
  refine s_fieldAddr rfl rfl fd33_0 rfl rfl rfl rfl ?_
  refine s_load rfl rfl rfl rfl ty9 rfl (.inr rfl) (by conv => lhs; whnf) rfl rfl rfl ?_
  refine s_fieldAddr rfl rfl fd39_0 rfl rfl rfl rfl ?_
  refine s_store (rows' := [[.sc (.string p0.apex), .nils]]) rfl rfl rfl rfl ty9 rfl rfl rfl rfl rfl rfl ?_
  refine rt_nil ?_
  refine tri_seq ?_
  refine tri_region ?_
  refine s_fieldAddr rfl rfl fd33_1 rfl rfl rfl rfl ?_
  refine s_load rfl rfl rfl rfl ty22 rfl (.inr rfl) (by conv => lhs; whnf) rfl rfl rfl ?_
  refine bnd1_elim h fun x1 q2 h => ?_
  refine s_callN (kb := []) (ns := []) (v := .ref (9, 0) 0 x1.length) rfl rfl cl33 (ww_toRecordS p0.l x1 q2) rfl (.cons (.free rfl) .nil) trivial memNil .nil memNil rfl ⟨(allSc_map recV_sc), trivial⟩ memNil rfl (by simp only [V.mat, V.mat1, V.mat0, matL, matT, List.length_map]) rfl rfl rfl rfl ?_
  refine s_fieldAddr rfl rfl fd39_1 rfl rfl rfl rfl ?_
  refine s_store (rows' := [[.sc (.string p0.apex), .ref (9, 0) 0 x1.length]]) rfl rfl rfl rfl ty27 rfl rfl rfl rfl rfl rfl ?_
  refine rt_nil ?_
  refine tri_seq ?_
  refine tri_region ?_
  refine s_loadR rfl rfl rfl rfl ty39 rfl rfl rfl ?_
  refine s_storeB rfl rfl rfl ty39 rfl rfl rfl rfl rfl ?_
  refine rt_nil ?_
  refine tri_ret ?_
  have e0 := (some1 h); subst e0
  exact endY (v' := .agg [.sc (.string p0.apex), .ref (2000, 1) 0 x1.length]) [((2000, 1), ⟨67, 6, List.map recV x1, false, true⟩, some (9, 0))] [] (rvC (resCell rfl rfl ty39) rvN) ⟨⟨rfl, _, rfl, rfl, rfl, rfl, id, rowsCv_eq rfl (allFree_map recV_free), rowsZ_map recV_len⟩, trivial⟩ trivial rfl rfl (by kernel_rfl) (by simp only [V.mat, V.mat1, V.mat0, matL, matT, List.length_map]) (CvL.agg (.cons (.free rfl) (.cons (.ref rfl) .nil)))

/- laws.toStringS -/
def inv_w_toStringS_0 (p0 : List ByteArray) (v0_0 : List ByteArray) (v0_1 : Nat) : St := mkT 22 [(0, .lst 1 (List.map strV p0)), (3, .ref (7, 0) 0 v0_0.length), (4, .sc (.int .i64 (v0_1 : Int)))] [((7, 0), some ⟨9, 1, List.map strV v0_0, false, true⟩)]
set_option maxRecDepth 4000 in
set_option maxHeartbeats 800000 in
theorem ww_toStringS (p0 : List ByteArray) (r0 : List ByteArray) (h : w_toStringS p0 = some r0) : Runs Try.prog 15 [.lst 1 (List.map strV p0)] [] (.own 9 1 (List.map strV r0)) [] := by
  unfold w_toStringS at h
  refine runsR [.tmp 2] Try.func15 rfl rfl rfl rfl ?_
  rw [Try.ntmps15]
  refine tri_seq ?_
  refine tri_region ?_
  refine s_mv (.inr rfl) (v := .nils) rfl rfl rfl rfl ?_
  refine rt_nil ?_
  refine tri_seq ?_
  refine tri_region ?_
  refine s_mv (.inl rfl) (by conv => lhs; whnf) rfl rfl rfl ?_
  refine s_lenL rfl sl34 rfl rfl rfl rfl ?_
  refine grd_elim h fun g1 h => ?_
  refine s_makeL (f := strV) (a := (⟨#[]⟩ : ByteArray)) rfl rfl rfl rfl rfl sl34 zc9 rfl rfl rfl rfl g1.1 g1.2 rfl rfl rfl ?_
  refine s_mv (.inr rfl) (by conv => lhs; whnf) rfl rfl rfl ?_
  refine rt_nil ?_
  refine tri_seq ?_
  refine tri_seq ?_
  refine tri_region ?_
  refine s_mv (.inr rfl) (v := .sc (.int .i64 0)) rfl rfl rfl rfl ?_
  refine rt_nil ?_
  refine tri_block ?_
  refine tri_lstM 0 rfl (fun hl0 => ?_)
  refine tri_loop (ι := { p : (List ByteArray) × (List ByteArray) × Nat // p0.drop p.2.2 = p.1 ∧ w_toStringS_l0 p.1 p.2.1 p.2.2 = some r0 }) (fun p => inv_w_toStringS_0 p0 p.1.2.1 p.1.2.2) (fun p => p.1.1.length) ⟨(p0, List.replicate (p0.length : Int).toNat (⟨#[]⟩ : ByteArray), 0), rfl, h⟩ ?_ ?_
  · skip
    refine entX [((7, 0), ⟨9, 1, List.map strV (List.replicate (p0.length : Int).toNat (⟨#[]⟩ : ByteArray)), false, true⟩, some (7, 0))] [] ⟨⟨rfl, _, rfl, rfl, rfl, rfl, id, rowsCv_eq rfl (allFree_map strV_free), rowsZ_map strV_len⟩, trivial⟩ trivial rfl rfl ?_
    exact ⟨(.free rfl), (.ref rfl), (.free rfl), trivial⟩
  · rintro ⟨⟨lrs0, v0_0, v0_1⟩, hd0, h⟩
    replace hd0 : p0.drop v0_1 = lrs0 := hd0
    replace h : w_toStringS_l0 lrs0 v0_0 v0_1 = some r0 := h
    show Tri _ _ _ (inv_w_toStringS_0 p0 v0_0 v0_1)
    refine tri_seq ?_
    refine tri_seq ?_
    refine tri_region ?_
    refine s_mv (.inl rfl) (by conv => lhs; whnf) rfl rfl rfl ?_
    refine s_mv (.inl rfl) (by conv => lhs; whnf) rfl rfl rfl ?_
    refine s_lenL rfl sl34 rfl rfl rfl rfl ?_
    refine s_of (st_lss rfl rfl rfl) rfl rfl rfl rfl ?_
    refine rt_nil ?_
    refine tri_cond rfl (fun c2 => ?_) (fun c2 => ?_)
    · refine drop_elim hd0 c2 fun e0 rs0 he hx0 hn0 => ?_
      subst he
      rw [w_toStringS_l0] at h
      refine tri_skip ?_
      refine tri_seq ?_
      refine tri_block ?_
      refine tri_region ?_
      refine s_mv (.inl rfl) (by conv => lhs; whnf) rfl rfl rfl ?_
      refine s_mv (.inl rfl) (by conv => lhs; whnf) rfl rfl rfl ?_
      refine s_mv (.inl rfl) (by conv => lhs; whnf) rfl rfl rfl ?_
      refine s_mv (.inl rfl) (by conv => lhs; whnf) rfl rfl rfl ?_
      refine s_indexF (i := v0_1) rfl rfl rfl sl34 (get_ltM hx0) rfl rfl rfl ?_
      refine s_loadF rfl rfl (rowG hx0) ty9 rfl (.inr rfl) (by conv => lhs; whnf) rfl rfl rfl ?_
      refine bnd1_elim h fun x3 q4 h => ?_
      have q4a := (idx_some q4).1; have q4b := (idx_some q4).2
      refine s_indexZ rfl rfl rfl rfl sl34 rfl q4a (get_lt q4b) rfl rfl rfl ?_
      refine s_storeL (x' := e0) rfl rfl rfl q4b ty9 rfl rfl rfl rfl rfl rfl ?_
      refine rt_nil ?_
      refine tri_region ?_
      refine s_mv (.inl rfl) (by conv => lhs; whnf) rfl rfl rfl ?_
      refine s_inc (a := v0_1) (b := 1) rfl rfl rfl rfl (by have := get_lt hx0; have := hl0; omega) rfl rfl rfl ?_
      refine s_mv (.inr rfl) (by conv => lhs; whnf) rfl rfl rfl ?_
      refine rt_nil ?_
      refine Exists.intro ⟨(rs0, v0_0.set ((v0_1 : Int).toNat) e0, (v0_1 + 1)), hn0, h⟩ (And.intro (Nat.lt_succ_self _) ?_)
      refine entX [((7, 0), ⟨9, 1, List.map strV (v0_0.set ((v0_1 : Int).toNat) e0), false, true⟩, some (7, 0))] [] ⟨⟨rfl, _, rfl, rfl, rfl, rfl, id, rowsCv_eq rfl (allFree_map strV_free), rowsZ_map strV_len⟩, trivial⟩ trivial rfl rfl ?_
      exact ⟨(.free rfl), (cvRefLen rfl (by simp only [List.length_set])), (.free rfl), trivial⟩
    · have he := drop_f hd0 c2; subst he
      rw [w_toStringS_l0] at h
      refine tri_exit ?_
      refine tri_seq ?_
      refine tri_region ?_
      refine s_mv (.inl rfl) (by conv => lhs; whnf) rfl rfl rfl ?_
      refine s_mv (.inr rfl) (by conv => lhs; whnf) rfl rfl rfl ?_
      refine rt_nil ?_
      refine tri_ret ?_
      have e0 := (some1 h); subst e0
      exact endY (v' := .ref (2000, 0) 0 v0_0.length) [((2000, 0), ⟨9, 1, List.map strV v0_0, false, true⟩, some (7, 0))] [] (rvC (resTmp rfl) rvN) ⟨⟨rfl, _, rfl, rfl, rfl, rfl, id, rowsCv_eq rfl (allFree_map strV_free), rowsZ_map strV_len⟩, trivial⟩ trivial rfl rfl (by kernel_rfl) (by simp only [V.mat, V.mat1, V.mat0, matL, matT, List.length_map]) (.ref rfl)

/- spec.SetOf -/
def inv_s_SetOf_1 (p0 : List Rec) (p1 : ByteArray) (p2 : Int) (v0_0 : List Rec) (v0_1 : Nat) (j1_0 : Bool) : St := mkT 40 [(0, .lst 6 (List.map recV p0)), (1, .sc (.string p1)), (2, .sc (.int .i64 p2)), (7, .ref (2007, 0) 0 v0_0.length), (8, .sc (.int .i64 (v0_1 : Int))), (31, .sc (.bool j1_0))] [((2007, 0), some ⟨67, 6, List.map recV v0_0, false, true⟩)]
def inv_s_SetOf_0 (p0 : List Rec) (p1 : ByteArray) (p2 : Int) (v0_0 : List Rec) (v0_1 : Nat) : St := mkT 40 [(0, .lst 6 (List.map recV p0)), (1, .sc (.string p1)), (2, .sc (.int .i64 p2)), (7, .ref (2007, 0) 0 v0_0.length), (8, .sc (.int .i64 (v0_1 : Int)))] [((2007, 0), some ⟨67, 6, List.map recV v0_0, false, true⟩)]
set_option maxRecDepth 4000 in
set_option maxHeartbeats 800000 in
theorem ws_SetOf (p0 : List Rec) (p1 : ByteArray) (p2 : Int) (r0 : List Rec) (h : s_SetOf p0 p1 p2 = some r0) : Runs Try.prog 37 [.lst 6 (List.map recV p0), .sc (.string p1), .sc (.int .i64 p2)] [] (.own 67 6 (List.map recV r0)) [] := by
  unfold s_SetOf at h
  refine runsR [.tmp 6] Try.func37 rfl rfl rfl rfl ?_
  rw [Try.ntmps37]
  refine tri_seq ?_
  refine tri_region ?_
  refine s_mv (.inr rfl) (v := .nils) rfl rfl rfl rfl ?_
  refine rt_nil ?_
  refine tri_seq ?_
  refine tri_region ?_
  refine s_buildSlice (rows' := List.map recV ([] : List Rec)) rfl rfl rfl sl27 zc67 rfl rfl rfl rfl rfl rfl rfl rfl rfl ?_
  refine s_mv (.inr rfl) (by conv => lhs; whnf) rfl rfl rfl ?_
  refine rt_nil ?_
  refine tri_seq ?_
  refine tri_seq ?_
  refine tri_region ?_
  refine s_mv (.inr rfl) (v := .sc (.int .i64 0)) rfl rfl rfl rfl ?_
  refine rt_nil ?_
  refine tri_block ?_
  refine tri_lstM 0 rfl (fun hl0 => ?_)
  refine tri_loop (ι := { p : (List Rec) × (List Rec) × Nat // p0.drop p.2.2 = p.1 ∧ s_SetOf_l0 p1 p2 p.1 p.2.1 p.2.2 = some r0 }) (fun p => inv_s_SetOf_0 p0 p1 p2 p.1.2.1 p.1.2.2) (fun p => p.1.1.length) ⟨(p0, ([] : List Rec), 0), rfl, h⟩ ?_ ?_
  · skip
    refine entX [((2007, 0), ⟨67, 6, List.map recV ([] : List Rec), false, true⟩, some (9, 0))] [] ⟨⟨rfl, _, rfl, rfl, rfl, rfl, id, rowsCv_eq rfl (allFree_map recV_free), rowsZ_map recV_len⟩, trivial⟩ trivial rfl rfl ?_
    exact ⟨(.free rfl), (.free rfl), (.free rfl), (.ref rfl), (.free rfl), trivial⟩
  · rintro ⟨⟨lrs0, v0_0, v0_1⟩, hd0, h⟩
    replace hd0 : p0.drop v0_1 = lrs0 := hd0
    replace h : s_SetOf_l0 p1 p2 lrs0 v0_0 v0_1 = some r0 := h
    show Tri _ _ _ (inv_s_SetOf_0 p0 p1 p2 v0_0 v0_1)
    refine tri_seq ?_
    refine tri_seq ?_
    refine tri_region ?_
    refine s_mv (.inl rfl) (by conv => lhs; whnf) rfl rfl rfl ?_
    refine s_mv (.inl rfl) (by conv => lhs; whnf) rfl rfl rfl ?_
    refine s_lenL rfl sl27 rfl rfl rfl rfl ?_
    refine s_of (st_lss rfl rfl rfl) rfl rfl rfl rfl ?_
    refine rt_nil ?_
    refine tri_cond rfl (fun c1 => ?_) (fun c1 => ?_)
    · refine drop_elim hd0 c1 fun e0 rs0 he hx0 hn0 => ?_
      subst he
      rw [s_SetOf_l0] at h
      refine tri_skip ?_
      refine tri_seq ?_
      refine tri_block ?_
      refine tri_cutI (ι := { p : Bool // s_SetOf_j1 v0_0 v0_1 e0 (s_SetOf_l0 p1 p2 rs0) p = some r0 }) (fun p => inv_s_SetOf_1 p0 p1 p2 v0_0 v0_1 p.1) ?_ ?_
      · skip
        refine tri_region ?_
        refine s_mv (.inl rfl) (by conv => lhs; whnf) rfl rfl rfl ?_
        refine s_mv (.inl rfl) (by conv => lhs; whnf) rfl rfl rfl ?_
        refine s_indexF (i := v0_1) rfl rfl rfl sl27 (get_ltM hx0) rfl rfl rfl ?_
        refine s_fieldAddrF rfl rfl fd67_0 rfl rfl rfl rfl ?_
        refine s_loadF rfl rfl (rowG hx0) ty9 rfl (.inr rfl) (by conv => lhs; whnf) rfl rfl rfl ?_
        refine s_mv (.inl rfl) (by conv => lhs; whnf) rfl rfl rfl ?_
        refine s_of (st_eqS rfl rfl rfl) rfl rfl rfl rfl ?_
        refine s_mv (.inl rfl) (by conv => lhs; whnf) rfl rfl rfl ?_
        refine s_split (t := 23) rfl (fun b2 => ?_) (fun b2 => ?_)
        · replace h := cond_t h b2
          refine s_mv (.inl rfl) (by conv => lhs; whnf) rfl rfl rfl ?_
          refine s_mv (.inl rfl) (by conv => lhs; whnf) rfl rfl rfl ?_
          refine s_indexF (i := v0_1) rfl rfl rfl sl27 (get_ltM hx0) rfl rfl rfl ?_
          refine s_fieldAddrF rfl rfl fd67_1 rfl rfl rfl rfl ?_
          refine s_loadF rfl rfl (rowG hx0) ty3 rfl (.inr rfl) (by conv => lhs; whnf) rfl rfl rfl ?_
          refine s_mv (.inl rfl) (by conv => lhs; whnf) rfl rfl rfl ?_
          refine s_of (st_eqI rfl rfl rfl) rfl rfl rfl rfl ?_
          refine s_pickT rfl rfl (by conv => lhs; whnf) rfl rfl rfl ?_
          refine rt_nil ?_
          refine Exists.intro ⟨decide (e0.ty = p2), h⟩ ?_
          refine entX [((2007, 0), ⟨67, 6, List.map recV v0_0, false, true⟩, some (2007, 0))] [] ⟨⟨rfl, _, rfl, rfl, rfl, rfl, id, rowsCv_eq rfl (allFree_map recV_free), rowsZ_map recV_len⟩, trivial⟩ trivial rfl rfl ?_
          exact ⟨(.free rfl), (.free rfl), (.free rfl), (.ref rfl), (.free rfl), (.free rfl), trivial⟩
        · replace h := cond_f h b2
          refine s_skip rfl rfl rfl ?_
          refine s_skip rfl rfl rfl ?_
          refine s_skip rfl rfl rfl ?_
          refine s_skip rfl rfl rfl ?_
          refine s_skip rfl rfl rfl ?_
          refine s_skip rfl rfl rfl ?_
          refine s_skip rfl rfl rfl ?_
          refine s_pickF rfl rfl (v := .sc (.bool false)) rfl rfl rfl rfl ?_
          refine rt_nil ?_
          refine Exists.intro ⟨false, h⟩ ?_
          refine entX [((2007, 0), ⟨67, 6, List.map recV v0_0, false, true⟩, some (2007, 0))] [] ⟨⟨rfl, _, rfl, rfl, rfl, rfl, id, rowsCv_eq rfl (allFree_map recV_free), rowsZ_map recV_len⟩, trivial⟩ trivial rfl rfl ?_
          exact ⟨(.free rfl), (.free rfl), (.free rfl), (.ref rfl), (.free rfl), (.free rfl), trivial⟩
      · rintro ⟨j1_0, h⟩
        replace h : s_SetOf_j1 v0_0 v0_1 e0 (s_SetOf_l0 p1 p2 rs0) j1_0 = some r0 := h
        unfold s_SetOf_j1 at h
        show Tri _ _ _ (inv_s_SetOf_1 p0 p1 p2 v0_0 v0_1 j1_0)
        refine tri_cond rfl (fun c2 => ?_) (fun c2 => ?_)
        · replace h := cond_t h c2
          refine tri_region ?_
          refine s_mv (.inl rfl) (by conv => lhs; whnf) rfl rfl rfl ?_
          refine s_mv (.inl rfl) (by conv => lhs; whnf) rfl rfl rfl ?_
          refine s_mv (.inl rfl) (by conv => lhs; whnf) rfl rfl rfl ?_
          refine s_indexF (i := v0_1) rfl rfl rfl sl27 (get_ltM hx0) rfl rfl rfl ?_
          refine s_loadFR rfl rfl (rowG hx0) ty67 rfl rfl rfl ?_
          refine s_buildSlice (rows' := List.map recV [e0]) rfl rfl rfl sl27 zc67 rfl rfl rfl rfl rfl rfl rfl rfl rfl ?_
          refine grd_elim h fun g3 h => ?_
          refine s_appL rfl rfl rfl sl27 zc67 rfl rfl rfl rfl rfl rfl (src_refL rfl rfl) g3 rfl rfl ?_
          refine s_mv (.inr rfl) (by conv => lhs; whnf) rfl rfl rfl ?_
          refine rt_nil ?_
          refine tri_region ?_
          refine s_mv (.inl rfl) (by conv => lhs; whnf) rfl rfl rfl ?_
          refine s_inc (a := v0_1) (b := 1) rfl rfl rfl rfl (by have := get_lt hx0; have := hl0; omega) rfl rfl rfl ?_
          refine s_mv (.inr rfl) (by conv => lhs; whnf) rfl rfl rfl ?_
          refine rt_nil ?_
          refine Exists.intro ⟨(rs0, v0_0 ++ [e0], (v0_1 + 1)), hn0, h⟩ (And.intro (Nat.lt_succ_self _) ?_)
          refine entX [((2007, 0), ⟨67, 6, List.map recV (v0_0 ++ [e0]), false, true⟩, some (38, 0))] [] ⟨⟨rfl, _, rfl, rfl, rfl, rfl, id, rowsCv_eq rfl (allFree_map recV_free), rowsZ_map recV_len⟩, trivial⟩ trivial rfl rfl ?_
          exact ⟨(.free rfl), (.free rfl), (.free rfl), (.ref rfl), (.free rfl), trivial⟩
        · replace h := cond_f h c2
          refine tri_skip ?_
          refine tri_region ?_
          refine s_mv (.inl rfl) (by conv => lhs; whnf) rfl rfl rfl ?_
          refine s_inc (a := v0_1) (b := 1) rfl rfl rfl rfl (by have := get_lt hx0; have := hl0; omega) rfl rfl rfl ?_
          refine s_mv (.inr rfl) (by conv => lhs; whnf) rfl rfl rfl ?_
          refine rt_nil ?_
          refine Exists.intro ⟨(rs0, v0_0, (v0_1 + 1)), hn0, h⟩ (And.intro (Nat.lt_succ_self _) ?_)
          refine entX [((2007, 0), ⟨67, 6, List.map recV v0_0, false, true⟩, some (2007, 0))] [] ⟨⟨rfl, _, rfl, rfl, rfl, rfl, id, rowsCv_eq rfl (allFree_map recV_free), rowsZ_map recV_len⟩, trivial⟩ trivial rfl rfl ?_
          exact ⟨(.free rfl), (.free rfl), (.free rfl), (.ref rfl), (.free rfl), trivial⟩
    · have he := drop_f hd0 c1; subst he
      rw [s_SetOf_l0] at h
      refine tri_exit ?_
      refine tri_seq ?_
      refine tri_region ?_
      refine s_mv (.inl rfl) (by conv => lhs; whnf) rfl rfl rfl ?_
      refine s_mv (.inr rfl) (by conv => lhs; whnf) rfl rfl rfl ?_
      refine rt_nil ?_
      refine tri_ret ?_
      have e0 := (some1 h); subst e0
      exact endY (v' := .ref (2000, 0) 0 v0_0.length) [((2000, 0), ⟨67, 6, List.map recV v0_0, false, true⟩, some (2007, 0))] [] (rvC (resTmp rfl) rvN) ⟨⟨rfl, _, rfl, rfl, rfl, rfl, id, rowsCv_eq rfl (allFree_map recV_free), rowsZ_map recV_len⟩, trivial⟩ trivial rfl rfl (by kernel_rfl) (by simp only [V.mat, V.mat1, V.mat0, matL, matT, List.length_map]) (.ref rfl)

/- spec.Glue -/
def inv_s_Glue_0 (p0 : MZone) (p1 : List ByteArray) (v0_0 : List Rec) (v0_1 : Nat) : St := mkT 24 [(1, .lst 1 (List.map strV p1)), (2, .ptr (2, 0) 0 0), (5, .ref (2005, 0) 0 v0_0.length), (6, .sc (.int .i64 (v0_1 : Int)))] [((2, 0), some ⟨39, 2, [[.sc (.string p0.apex), .lst 6 (List.map recV p0.l)]], false, true⟩), ((2005, 0), some ⟨67, 6, List.map recV v0_0, false, true⟩)]
set_option maxRecDepth 4000 in
set_option maxHeartbeats 800000 in
theorem ws_Glue (p0 : MZone) (p1 : List ByteArray) (r0 : List Rec) (h : s_Glue p0 p1 = some r0) : Runs Try.prog 13 [.agg (mZoneV p0), .lst 1 (List.map strV p1)] [] (.own 67 6 (List.map recV r0)) [] := by
  unfold s_Glue at h
  refine runsR [.tmp 4] Try.func13 rfl rfl rfl rfl ?_
  rw [Try.ntmps13]
  refine tri_seq ?_
  refine tri_region ?_
  refine s_box rfl rfl rfl rfl rfl rfl rfl ?_
  refine s_mv (.inr rfl) (v := .nils) rfl rfl rfl rfl ?_
  refine rt_nil ?_
  refine tri_seq ?_
  refine tri_region ?_
  refine s_buildSlice (rows' := List.map recV ([] : List Rec)) rfl rfl rfl sl27 zc67 rfl rfl rfl rfl rfl rfl rfl rfl rfl ?_
  refine s_mv (.inr rfl) (by conv => lhs; whnf) rfl rfl rfl ?_
  refine rt_nil ?_
  refine tri_seq ?_
  refine tri_seq ?_
  refine tri_region ?_
  refine s_mv (.inr rfl) (v := .sc (.int .i64 0)) rfl rfl rfl rfl ?_
  refine rt_nil ?_
  refine tri_block ?_
  refine tri_lstM 1 rfl (fun hl0 => ?_)
  refine tri_loop (ι := { p : (List ByteArray) × (List Rec) × Nat // p1.drop p.2.2 = p.1 ∧ s_Glue_l0 p0 p.1 p.2.1 p.2.2 = some r0 }) (fun p => inv_s_Glue_0 p0 p1 p.1.2.1 p.1.2.2) (fun p => p.1.1.length) ⟨(p1, ([] : List Rec), 0), rfl, h⟩ ?_ ?_
  · skip
    refine entX [((2, 0), ⟨39, 2, [[.sc (.string p0.apex), .lst 6 (List.map recV p0.l)]], false, true⟩, some (2, 0)), ((2005, 0), ⟨67, 6, List.map recV ([] : List Rec), false, true⟩, some (7, 0))] [] ⟨⟨rfl, _, rfl, rfl, rfl, rfl, id, rowsCv_one (.cons (.free rfl) (.cons (.free rfl) .nil)), rowsZ_one rfl⟩, ⟨rfl, _, rfl, rfl, rfl, rfl, id, rowsCv_eq rfl (allFree_map recV_free), rowsZ_map recV_len⟩, trivial⟩ trivial rfl rfl ?_
    exact ⟨(.free rfl), (.ptr rfl), (.ref rfl), (.free rfl), trivial⟩
  · rintro ⟨⟨lrs0, v0_0, v0_1⟩, hd0, h⟩
    replace hd0 : p1.drop v0_1 = lrs0 := hd0
    replace h : s_Glue_l0 p0 lrs0 v0_0 v0_1 = some r0 := h
    show Tri _ _ _ (inv_s_Glue_0 p0 p1 v0_0 v0_1)
    refine tri_seq ?_
    refine tri_seq ?_
    refine tri_region ?_
    refine s_mv (.inl rfl) (by conv => lhs; whnf) rfl rfl rfl ?_
    refine s_mv (.inl rfl) (by conv => lhs; whnf) rfl rfl rfl ?_
    refine s_lenL rfl sl34 rfl rfl rfl rfl ?_
    refine s_of (st_lss rfl rfl rfl) rfl rfl rfl rfl ?_
    refine rt_nil ?_
    refine tri_cond rfl (fun c1 => ?_) (fun c1 => ?_)
    · refine drop_elim hd0 c1 fun e0 rs0 he hx0 hn0 => ?_
      subst he
      rw [s_Glue_l0] at h
      refine tri_skip ?_
      refine tri_seq ?_
      refine tri_block ?_
      refine tri_draw mixed ?_
      refine s_mv (.inl rfl) (by conv => lhs; whnf) rfl rfl rfl ?_
      refine s_fieldAddr rfl rfl fd39_1 rfl rfl rfl rfl ?_
      refine s_load rfl rfl rfl rfl ty27 rfl (.inr rfl) (by conv => lhs; whnf) rfl rfl rfl ?_
      refine s_mv (.inl rfl) (by conv => lhs; whnf) rfl rfl rfl ?_
      refine s_mv (.inl rfl) (by conv => lhs; whnf) rfl rfl rfl ?_
      refine s_indexF (i := v0_1) rfl rfl rfl sl34 (get_ltM hx0) rfl rfl rfl ?_
      refine s_loadF rfl rfl (rowG hx0) ty9 rfl (.inr rfl) (by conv => lhs; whnf) rfl rfl rfl ?_
      refine bnd1_elim h fun x2 q3 h => ?_
      refine s_callN (kb := []) (ns := []) (v := .ref (21, 0) 0 x2.length) rfl rfl cl37 (ws_SetOf p0.l e0 1 x2 q3) rfl (.cons (.free rfl) (.cons (.free rfl) (.cons (.free rfl) .nil))) trivial memNil .nil memNil rfl ⟨(allSc_map recV_sc), trivial⟩ memNil rfl (by simp only [V.mat, V.mat1, V.mat0, matL, matT, List.length_map]) rfl rfl rfl rfl ?_
      refine grd_elim h fun g4 h => ?_
      refine s_appL rfl rfl rfl sl27 zc67 rfl rfl rfl rfl rfl rfl (src_refL rfl rfl) g4 rfl rfl ?_
      refine s_mv (.inr rfl) (by conv => lhs; whnf) rfl rfl rfl ?_
      refine rt_nil ⟨by kernel_rfl, ?_⟩
      refine tri_region ?_
      refine s_mv (.inl rfl) (by conv => lhs; whnf) rfl rfl rfl ?_
      refine s_inc (a := v0_1) (b := 1) rfl rfl rfl rfl (by have := get_lt hx0; have := hl0; omega) rfl rfl rfl ?_
      refine s_mv (.inr rfl) (by conv => lhs; whnf) rfl rfl rfl ?_
      refine rt_nil ?_
      refine Exists.intro ⟨(rs0, v0_0 ++ x2, (v0_1 + 1)), hn0, h⟩ (And.intro (Nat.lt_succ_self _) ?_)
      refine entX [((2, 0), ⟨39, 2, [[.sc (.string p0.apex), .lst 6 (List.map recV p0.l)]], false, true⟩, some (2, 0)), ((2005, 0), ⟨67, 6, List.map recV (v0_0 ++ x2), false, true⟩, some (22, 0))] [] ⟨⟨rfl, _, rfl, rfl, rfl, rfl, id, rowsCv_one (.cons (.free rfl) (.cons (.free rfl) .nil)), rowsZ_one rfl⟩, ⟨rfl, _, rfl, rfl, rfl, rfl, id, rowsCv_eq rfl (allFree_map recV_free), rowsZ_map recV_len⟩, trivial⟩ trivial rfl rfl ?_
      exact ⟨(.free rfl), (.ptr rfl), (.ref rfl), (.free rfl), trivial⟩
    · have he := drop_f hd0 c1; subst he
      rw [s_Glue_l0] at h
      refine tri_exit ?_
      refine tri_seq ?_
      refine tri_region ?_
      refine s_mv (.inl rfl) (by conv => lhs; whnf) rfl rfl rfl ?_
      refine s_mv (.inr rfl) (by conv => lhs; whnf) rfl rfl rfl ?_
      refine rt_nil ?_
      refine tri_ret ?_
      have e0 := (some1 h); subst e0
      exact endY (v' := .ref (2000, 0) 0 v0_0.length) [((2000, 0), ⟨67, 6, List.map recV v0_0, false, true⟩, some (2005, 0))] [] (rvC (resTmp rfl) rvN) ⟨⟨rfl, _, rfl, rfl, rfl, rfl, id, rowsCv_eq rfl (allFree_map recV_free), rowsZ_map recV_len⟩, trivial⟩ trivial rfl rfl (by kernel_rfl) (by simp only [V.mat, V.mat1, V.mat0, matL, matT, List.length_map]) (.ref rfl)

/- impl.SetOf -/
def inv_i_SetOf_1 (p0 : List Rec) (p1 : ByteArray) (p2 : Int) (v0_0 : List Rec) (v0_1 : Nat) (e0 : Rec) (j1_0 : Bool) : St := mkT 33 [(1, .sc (.string p1)), (2, .sc (.int .i64 p2)), (7, .ref (2007, 0) 0 v0_0.length), (9, .ptr (9, 0) 0 0), (11, .lst 6 (List.map recV p0)), (12, .sc (.int .i64 (p0.length : Int))), (13, .sc (.int .i64 (v0_1 : Int))), (26, .sc (.bool j1_0))] [((2007, 0), some ⟨67, 6, List.map recV v0_0, false, true⟩), ((9, 0), some ⟨67, 6, [[.sc (.string e0.name), .sc (.int .i64 e0.ty), .sc (.int .i64 e0.ttl), .sc (.int .i64 e0.n), .sc (.string e0.host), .sc (.string e0.text)]], false, true⟩)]
def inv_i_SetOf_0 (p0 : List Rec) (p1 : ByteArray) (p2 : Int) (v0_0 : List Rec) (v0_1 : Nat) : St := mkT 33 [(1, .sc (.string p1)), (2, .sc (.int .i64 p2)), (7, .ref (2007, 0) 0 v0_0.length), (11, .lst 6 (List.map recV p0)), (12, .sc (.int .i64 (p0.length : Int))), (13, .sc (.int .i64 (v0_1 : Int)))] [((2007, 0), some ⟨67, 6, List.map recV v0_0, false, true⟩)]
set_option maxRecDepth 4000 in
set_option maxHeartbeats 800000 in
theorem wi_SetOf (p0 : List Rec) (p1 : ByteArray) (p2 : Int) (r0 : List Rec) (h : i_SetOf p0 p1 p2 = some r0) : Runs Try.prog 38 [.lst 6 (List.map recV p0), .sc (.string p1), .sc (.int .i64 p2)] [] (.own 67 6 (List.map recV r0)) [] := by
  unfold i_SetOf at h
  refine runsR [.tmp 6] Try.func38 rfl rfl rfl rfl ?_
  rw [Try.ntmps38]
  refine tri_seq ?_
  refine tri_region ?_
  refine s_mv (.inr rfl) (v := .nils) rfl rfl rfl rfl ?_
  refine rt_nil ?_
  refine tri_seq ?_
  refine tri_region ?_
  refine s_buildSlice (rows' := List.map recV ([] : List Rec)) rfl rfl rfl sl27 zc67 rfl rfl rfl rfl rfl rfl rfl rfl rfl ?_
  refine s_mv (.inr rfl) (by conv => lhs; whnf) rfl rfl rfl ?_
  refine rt_nil ?_
  refine tri_seq ?_
  refine tri_seq ?_
  refine tri_region ?_
  refine s_mv (.inl rfl) (by conv => lhs; whnf) rfl rfl rfl ?_
  refine s_lenL rfl sl27 rfl rfl rfl rfl ?_
  refine s_mv (.inl rfl) (v := .sc (.int .i64 0)) rfl rfl rfl rfl ?_
  refine rt_nil ?_
  refine tri_block ?_
  refine tri_lstM 0 rfl (fun hl0 => ?_)
  refine tri_loop (ι := { p : (List Rec) × (List Rec) × Nat // p0.drop p.2.2 = p.1 ∧ i_SetOf_l0 p1 p2 p.1 p.2.1 p.2.2 = some r0 }) (fun p => inv_i_SetOf_0 p0 p1 p2 p.1.2.1 p.1.2.2) (fun p => p.1.1.length) ⟨(p0, ([] : List Rec), 0), rfl, h⟩ ?_ ?_
  · skip
    refine entX [((2007, 0), ⟨67, 6, List.map recV ([] : List Rec), false, true⟩, some (10, 0))] [] ⟨⟨rfl, _, rfl, rfl, rfl, rfl, id, rowsCv_eq rfl (allFree_map recV_free), rowsZ_map recV_len⟩, trivial⟩ trivial rfl rfl ?_
    exact ⟨(.free rfl), (.free rfl), (.ref rfl), (.free rfl), (.free rfl), (.free rfl), trivial⟩
  · rintro ⟨⟨lrs0, v0_0, v0_1⟩, hd0, h⟩
    replace hd0 : p0.drop v0_1 = lrs0 := hd0
    replace h : i_SetOf_l0 p1 p2 lrs0 v0_0 v0_1 = some r0 := h
    show Tri _ _ _ (inv_i_SetOf_0 p0 p1 p2 v0_0 v0_1)
    refine tri_seq ?_
    refine tri_region ?_
    refine s_of (st_lss rfl rfl rfl) rfl rfl rfl rfl ?_
    refine rt_nil ?_
    refine tri_seq ?_
    refine tri_cond rfl (fun c1 => ?_) (fun c1 => ?_)
    · refine drop_elim hd0 c1 fun e0 rs0 he hx0 hn0 => ?_
      subst he
      rw [i_SetOf_l0] at h
      refine tri_skip ?_
      refine tri_seq ?_
      refine tri_block ?_
      refine tri_seq ?_
      refine tri_region ?_
      refine s_indexF (i := v0_1) rfl rfl rfl sl27 (get_ltM hx0) rfl rfl rfl ?_
      refine s_loadFR rfl rfl (rowG hx0) ty67 rfl rfl rfl ?_
      refine s_alloc rfl rfl rfl zc67 rfl rfl rfl rfl rfl ?_
      refine s_storeB rfl rfl rfl ty67 rfl rfl rfl rfl rfl ?_
      refine rt_nil ?_
      refine tri_cutI (ι := { p : Bool // i_SetOf_j1 v0_0 v0_1 e0 (i_SetOf_l0 p1 p2 rs0) p = some r0 }) (fun p => inv_i_SetOf_1 p0 p1 p2 v0_0 v0_1 e0 p.1) ?_ ?_
      · skip
        refine tri_region ?_
        refine s_fieldAddr rfl rfl fd67_0 rfl rfl rfl rfl ?_
        refine s_load rfl rfl rfl rfl ty9 rfl (.inr rfl) (by conv => lhs; whnf) rfl rfl rfl ?_
        refine s_mv (.inl rfl) (by conv => lhs; whnf) rfl rfl rfl ?_
        refine s_of (st_eqS rfl rfl rfl) rfl rfl rfl rfl ?_
        refine s_mv (.inl rfl) (by conv => lhs; whnf) rfl rfl rfl ?_
        refine s_split (t := 21) rfl (fun b2 => ?_) (fun b2 => ?_)
        · replace h := cond_t h b2
          refine s_fieldAddr rfl rfl fd67_1 rfl rfl rfl rfl ?_
          refine s_load rfl rfl rfl rfl ty3 rfl (.inr rfl) (by conv => lhs; whnf) rfl rfl rfl ?_
          refine s_mv (.inl rfl) (by conv => lhs; whnf) rfl rfl rfl ?_
          refine s_of (st_eqI rfl rfl rfl) rfl rfl rfl rfl ?_
          refine s_pickT rfl rfl (by conv => lhs; whnf) rfl rfl rfl ?_
          refine rt_nil ?_
          refine Exists.intro ⟨decide (e0.ty = p2), h⟩ ?_
          refine entX [((2007, 0), ⟨67, 6, List.map recV v0_0, false, true⟩, some (2007, 0)), ((9, 0), ⟨67, 6, [[.sc (.string e0.name), .sc (.int .i64 e0.ty), .sc (.int .i64 e0.ttl), .sc (.int .i64 e0.n), .sc (.string e0.host), .sc (.string e0.text)]], false, true⟩, some (9, 0))] [] ⟨⟨rfl, _, rfl, rfl, rfl, rfl, id, rowsCv_eq rfl (allFree_map recV_free), rowsZ_map recV_len⟩, ⟨rfl, _, rfl, rfl, rfl, rfl, id, rowsCv_one (.cons (.free rfl) (.cons (.free rfl) (.cons (.free rfl) (.cons (.free rfl) (.cons (.free rfl) (.cons (.free rfl) .nil)))))), rowsZ_one rfl⟩, trivial⟩ trivial rfl rfl ?_
          exact ⟨(.free rfl), (.free rfl), (.ref rfl), (.ptr rfl), (.free rfl), (.free rfl), (.free rfl), (.free rfl), trivial⟩
        · replace h := cond_f h b2
          refine s_skip rfl rfl rfl ?_
          refine s_skip rfl rfl rfl ?_
          refine s_skip rfl rfl rfl ?_
          refine s_skip rfl rfl rfl ?_
          refine s_pickF rfl rfl (v := .sc (.bool false)) rfl rfl rfl rfl ?_
          refine rt_nil ?_
          refine Exists.intro ⟨false, h⟩ ?_
          refine entX [((2007, 0), ⟨67, 6, List.map recV v0_0, false, true⟩, some (2007, 0)), ((9, 0), ⟨67, 6, [[.sc (.string e0.name), .sc (.int .i64 e0.ty), .sc (.int .i64 e0.ttl), .sc (.int .i64 e0.n), .sc (.string e0.host), .sc (.string e0.text)]], false, true⟩, some (9, 0))] [] ⟨⟨rfl, _, rfl, rfl, rfl, rfl, id, rowsCv_eq rfl (allFree_map recV_free), rowsZ_map recV_len⟩, ⟨rfl, _, rfl, rfl, rfl, rfl, id, rowsCv_one (.cons (.free rfl) (.cons (.free rfl) (.cons (.free rfl) (.cons (.free rfl) (.cons (.free rfl) (.cons (.free rfl) .nil)))))), rowsZ_one rfl⟩, trivial⟩ trivial rfl rfl ?_
          exact ⟨(.free rfl), (.free rfl), (.ref rfl), (.ptr rfl), (.free rfl), (.free rfl), (.free rfl), (.free rfl), trivial⟩
      · rintro ⟨j1_0, h⟩
        replace h : i_SetOf_j1 v0_0 v0_1 e0 (i_SetOf_l0 p1 p2 rs0) j1_0 = some r0 := h
        unfold i_SetOf_j1 at h
        show Tri _ _ _ (inv_i_SetOf_1 p0 p1 p2 v0_0 v0_1 e0 j1_0)
        refine tri_cond rfl (fun c2 => ?_) (fun c2 => ?_)
        · replace h := cond_t h c2
          refine tri_region ?_
          refine s_mv (.inl rfl) (by conv => lhs; whnf) rfl rfl rfl ?_
          refine s_loadR rfl rfl rfl rfl ty67 rfl rfl rfl ?_
          refine s_buildSlice (rows' := List.map recV [e0]) rfl rfl rfl sl27 zc67 rfl rfl rfl rfl rfl rfl rfl rfl rfl ?_
          refine grd_elim h fun g3 h => ?_
          refine s_appL rfl rfl rfl sl27 zc67 rfl rfl rfl rfl rfl rfl (src_refL rfl rfl) g3 rfl rfl ?_
          refine s_mv (.inr rfl) (by conv => lhs; whnf) rfl rfl rfl ?_
          refine rt_nil ?_
          refine tri_region ?_
          refine s_inc (a := v0_1) (b := 1) rfl rfl rfl rfl (by have := get_lt hx0; have := hl0; omega) rfl rfl rfl ?_
          refine s_mv (.inl rfl) (by conv => lhs; whnf) rfl rfl rfl ?_
          refine rt_nil ?_
          refine Exists.intro ⟨(rs0, v0_0 ++ [e0], (v0_1 + 1)), hn0, h⟩ (And.intro (Nat.lt_succ_self _) ?_)
          refine entX [((2007, 0), ⟨67, 6, List.map recV (v0_0 ++ [e0]), false, true⟩, some (30, 0))] [] ⟨⟨rfl, _, rfl, rfl, rfl, rfl, id, rowsCv_eq rfl (allFree_map recV_free), rowsZ_map recV_len⟩, trivial⟩ trivial rfl rfl ?_
          exact ⟨(.free rfl), (.free rfl), (.ref rfl), (.free rfl), (.free rfl), (.free rfl), trivial⟩
        · replace h := cond_f h c2
          refine tri_skip ?_
          refine tri_region ?_
          refine s_inc (a := v0_1) (b := 1) rfl rfl rfl rfl (by have := get_lt hx0; have := hl0; omega) rfl rfl rfl ?_
          refine s_mv (.inl rfl) (by conv => lhs; whnf) rfl rfl rfl ?_
          refine rt_nil ?_
          refine Exists.intro ⟨(rs0, v0_0, (v0_1 + 1)), hn0, h⟩ (And.intro (Nat.lt_succ_self _) ?_)
          refine entX [((2007, 0), ⟨67, 6, List.map recV v0_0, false, true⟩, some (2007, 0))] [] ⟨⟨rfl, _, rfl, rfl, rfl, rfl, id, rowsCv_eq rfl (allFree_map recV_free), rowsZ_map recV_len⟩, trivial⟩ trivial rfl rfl ?_
          exact ⟨(.free rfl), (.free rfl), (.ref rfl), (.free rfl), (.free rfl), (.free rfl), trivial⟩
    · have he := drop_f hd0 c1; subst he
      rw [i_SetOf_l0] at h
      refine tri_exit ?_
      refine tri_seq ?_
      refine tri_region ?_
      refine s_mv (.inl rfl) (by conv => lhs; whnf) rfl rfl rfl ?_
      refine s_mv (.inr rfl) (by conv => lhs; whnf) rfl rfl rfl ?_
      refine rt_nil ?_
      refine tri_ret ?_
      have e0 := (some1 h); subst e0
      exact endY (v' := .ref (2000, 0) 0 v0_0.length) [((2000, 0), ⟨67, 6, List.map recV v0_0, false, true⟩, some (2007, 0))] [] (rvC (resTmp rfl) rvN) ⟨⟨rfl, _, rfl, rfl, rfl, rfl, id, rowsCv_eq rfl (allFree_map recV_free), rowsZ_map recV_len⟩, trivial⟩ trivial rfl rfl (by kernel_rfl) (by simp only [V.mat, V.mat1, V.mat0, matL, matT, List.length_map]) (.ref rfl)

/- impl.Glue -/
def inv_i_Glue_0 (p0 : MZone) (p1 : List ByteArray) (v0_0 : List Rec) (v0_1 : Nat) : St := mkT 23 [(2, .ptr (2, 0) 0 0), (5, .ref (2005, 0) 0 v0_0.length), (9, .lst 1 (List.map strV p1)), (10, .sc (.int .i64 (p1.length : Int))), (11, .sc (.int .i64 (v0_1 : Int)))] [((2, 0), some ⟨39, 2, [[.sc (.string p0.apex), .lst 6 (List.map recV p0.l)]], false, true⟩), ((2005, 0), some ⟨67, 6, List.map recV v0_0, false, true⟩)]
set_option maxRecDepth 4000 in
set_option maxHeartbeats 800000 in
theorem wi_Glue (p0 : MZone) (p1 : List ByteArray) (r0 : List Rec) (h : i_Glue p0 p1 = some r0) : Runs Try.prog 16 [.agg (mZoneV p0), .lst 1 (List.map strV p1)] [] (.own 67 6 (List.map recV r0)) [] := by
  unfold i_Glue at h
  refine runsR [.tmp 4] Try.func16 rfl rfl rfl rfl ?_
  rw [Try.ntmps16]
  refine tri_seq ?_
  refine tri_region ?_
  refine s_box rfl rfl rfl rfl rfl rfl rfl ?_
  refine s_mv (.inr rfl) (v := .nils) rfl rfl rfl rfl ?_
  refine rt_nil ?_
  refine tri_seq ?_
  refine tri_region ?_
  refine s_buildSlice (rows' := List.map recV ([] : List Rec)) rfl rfl rfl sl27 zc67 rfl rfl rfl rfl rfl rfl rfl rfl rfl ?_
  refine s_mv (.inr rfl) (by conv => lhs; whnf) rfl rfl rfl ?_
  refine rt_nil ?_
  refine tri_seq ?_
  refine tri_seq ?_
  refine tri_region ?_
  refine s_mv (.inl rfl) (by conv => lhs; whnf) rfl rfl rfl ?_
  refine s_lenL rfl sl34 rfl rfl rfl rfl ?_
  refine s_mv (.inl rfl) (v := .sc (.int .i64 0)) rfl rfl rfl rfl ?_
  refine rt_nil ?_
  refine tri_block ?_
  refine tri_lstM 1 rfl (fun hl0 => ?_)
  refine tri_loop (ι := { p : (List ByteArray) × (List Rec) × Nat // p1.drop p.2.2 = p.1 ∧ i_Glue_l0 p0 p.1 p.2.1 p.2.2 = some r0 }) (fun p => inv_i_Glue_0 p0 p1 p.1.2.1 p.1.2.2) (fun p => p.1.1.length) ⟨(p1, ([] : List Rec), 0), rfl, h⟩ ?_ ?_
  · skip
    refine entX [((2, 0), ⟨39, 2, [[.sc (.string p0.apex), .lst 6 (List.map recV p0.l)]], false, true⟩, some (2, 0)), ((2005, 0), ⟨67, 6, List.map recV ([] : List Rec), false, true⟩, some (8, 0))] [] ⟨⟨rfl, _, rfl, rfl, rfl, rfl, id, rowsCv_one (.cons (.free rfl) (.cons (.free rfl) .nil)), rowsZ_one rfl⟩, ⟨rfl, _, rfl, rfl, rfl, rfl, id, rowsCv_eq rfl (allFree_map recV_free), rowsZ_map recV_len⟩, trivial⟩ trivial rfl rfl ?_
    exact ⟨(.ptr rfl), (.ref rfl), (.free rfl), (.free rfl), (.free rfl), trivial⟩
  · rintro ⟨⟨lrs0, v0_0, v0_1⟩, hd0, h⟩
    replace hd0 : p1.drop v0_1 = lrs0 := hd0
    replace h : i_Glue_l0 p0 lrs0 v0_0 v0_1 = some r0 := h
    show Tri _ _ _ (inv_i_Glue_0 p0 p1 v0_0 v0_1)
    refine tri_seq ?_
    refine tri_region ?_
    refine s_of (st_lss rfl rfl rfl) rfl rfl rfl rfl ?_
    refine rt_nil ?_
    refine tri_seq ?_
    refine tri_cond rfl (fun c1 => ?_) (fun c1 => ?_)
    · refine drop_elim hd0 c1 fun e0 rs0 he hx0 hn0 => ?_
      subst he
      rw [i_Glue_l0] at h
      refine tri_skip ?_
      refine tri_seq ?_
      refine tri_block ?_
      refine tri_seq ?_
      refine tri_region ?_
      refine s_indexF (i := v0_1) rfl rfl rfl sl34 (get_ltM hx0) rfl rfl rfl ?_
      refine s_loadF rfl rfl (rowG hx0) ty9 rfl (.inr rfl) (by conv => lhs; whnf) rfl rfl rfl ?_
      refine s_mv (.inr rfl) (by conv => lhs; whnf) rfl rfl rfl ?_
      refine rt_nil ?_
      refine tri_region ?_
      refine s_mv (.inl rfl) (by conv => lhs; whnf) rfl rfl rfl ?_
      refine s_fieldAddr rfl rfl fd39_1 rfl rfl rfl rfl ?_
      refine s_load rfl rfl rfl rfl ty27 rfl (.inr rfl) (by conv => lhs; whnf) rfl rfl rfl ?_
      refine s_mv (.inl rfl) (by conv => lhs; whnf) rfl rfl rfl ?_
      refine bnd1_elim h fun x2 q3 h => ?_
      refine s_callN (kb := []) (ns := []) (v := .ref (19, 0) 0 x2.length) rfl rfl cl38 (wi_SetOf p0.l e0 1 x2 q3) rfl (.cons (.free rfl) (.cons (.free rfl) (.cons (.free rfl) .nil))) trivial memNil .nil memNil rfl ⟨(allSc_map recV_sc), trivial⟩ memNil rfl (by simp only [V.mat, V.mat1, V.mat0, matL, matT, List.length_map]) rfl rfl rfl rfl ?_
      refine grd_elim h fun g4 h => ?_
      refine s_appL rfl rfl rfl sl27 zc67 rfl rfl rfl rfl rfl rfl (src_refL rfl rfl) g4 rfl rfl ?_
      refine s_mv (.inr rfl) (by conv => lhs; whnf) rfl rfl rfl ?_
      refine rt_nil ?_
      refine tri_region ?_
      refine s_inc (a := v0_1) (b := 1) rfl rfl rfl rfl (by have := get_lt hx0; have := hl0; omega) rfl rfl rfl ?_
      refine s_mv (.inl rfl) (by conv => lhs; whnf) rfl rfl rfl ?_
      refine rt_nil ?_
      refine Exists.intro ⟨(rs0, v0_0 ++ x2, (v0_1 + 1)), hn0, h⟩ (And.intro (Nat.lt_succ_self _) ?_)
      refine entX [((2, 0), ⟨39, 2, [[.sc (.string p0.apex), .lst 6 (List.map recV p0.l)]], false, true⟩, some (2, 0)), ((2005, 0), ⟨67, 6, List.map recV (v0_0 ++ x2), false, true⟩, some (20, 0))] [] ⟨⟨rfl, _, rfl, rfl, rfl, rfl, id, rowsCv_one (.cons (.free rfl) (.cons (.free rfl) .nil)), rowsZ_one rfl⟩, ⟨rfl, _, rfl, rfl, rfl, rfl, id, rowsCv_eq rfl (allFree_map recV_free), rowsZ_map recV_len⟩, trivial⟩ trivial rfl rfl ?_
      exact ⟨(.ptr rfl), (.ref rfl), (.free rfl), (.free rfl), (.free rfl), trivial⟩
    · have he := drop_f hd0 c1; subst he
      rw [i_Glue_l0] at h
      refine tri_exit ?_
      refine tri_seq ?_
      refine tri_region ?_
      refine s_mv (.inl rfl) (by conv => lhs; whnf) rfl rfl rfl ?_
      refine s_mv (.inr rfl) (by conv => lhs; whnf) rfl rfl rfl ?_
      refine rt_nil ?_
      refine tri_ret ?_
      have e0 := (some1 h); subst e0
      exact endY (v' := .ref (2000, 0) 0 v0_0.length) [((2000, 0), ⟨67, 6, List.map recV v0_0, false, true⟩, some (2005, 0))] [] (rvC (resTmp rfl) rvN) ⟨⟨rfl, _, rfl, rfl, rfl, rfl, id, rowsCv_eq rfl (allFree_map recV_free), rowsZ_map recV_len⟩, trivial⟩ trivial rfl rfl (by kernel_rfl) (by simp only [V.mat, V.mat1, V.mat0, matL, matT, List.length_map]) (.ref rfl)

/- laws.eqRecord -/

set_option maxRecDepth 4000 in
set_option maxHeartbeats 800000 in
theorem ww_eqRecord (p0 : Rec) (p1 : Rec) (r0 : Bool) (h : w_eqRecord p0 p1 = some r0) : Runs Try.prog 39 [.agg (recV p0), .agg (recV p1)] [] (.sc (.bool r0)) [] := by
  unfold w_eqRecord at h
  refine runsR [.tmp 4] Try.func39 rfl rfl rfl rfl ?_
  rw [Try.ntmps39]
  refine tri_seq ?_
  refine tri_region ?_
  refine s_box rfl rfl rfl rfl rfl rfl rfl ?_
  refine s_box rfl rfl rfl rfl rfl rfl rfl ?_
  refine s_mv (.inr rfl) (v := .sc (.bool false)) rfl rfl rfl rfl ?_
  refine rt_nil ?_
  refine tri_seq ?_
  refine tri_seq ?_
  refine tri_region ?_
  refine s_fieldAddr rfl rfl fd67_0 rfl rfl rfl rfl ?_
  refine s_load rfl rfl rfl rfl ty9 rfl (.inr rfl) (by conv => lhs; whnf) rfl rfl rfl ?_
  refine s_fieldAddr rfl rfl fd67_0 rfl rfl rfl rfl ?_
  refine s_load rfl rfl rfl rfl ty9 rfl (.inr rfl) (by conv => lhs; whnf) rfl rfl rfl ?_
  refine s_of (st_neS rfl rfl rfl) rfl rfl rfl rfl ?_
  refine rt_nil ?_
  refine tri_cond rfl (fun c1 => ?_) (fun c1 => ?_)
  · replace h := cond_t h c1
    refine tri_seq ?_
    refine tri_region ?_
    refine s_mv (.inr rfl) (v := .sc (.bool false)) rfl rfl rfl rfl ?_
    refine rt_nil ?_
    refine tri_ret ?_
    have e0 := (some1 h); subst e0
    exact endY [] [] (rvC (resTmp rfl) rvN) trivial trivial rfl rfl rfl rfl (.free rfl)
  · replace h := cond_f h c1
    refine tri_skip ?_
    refine tri_seq ?_
    refine tri_seq ?_
    refine tri_region ?_
    refine s_fieldAddr rfl rfl fd67_1 rfl rfl rfl rfl ?_
    refine s_load rfl rfl rfl rfl ty3 rfl (.inr rfl) (by conv => lhs; whnf) rfl rfl rfl ?_
    refine s_fieldAddr rfl rfl fd67_1 rfl rfl rfl rfl ?_
    refine s_load rfl rfl rfl rfl ty3 rfl (.inr rfl) (by conv => lhs; whnf) rfl rfl rfl ?_
    refine s_of (st_neI rfl rfl rfl) rfl rfl rfl rfl ?_
    refine rt_nil ?_
    refine tri_cond rfl (fun c2 => ?_) (fun c2 => ?_)
    · replace h := cond_t h c2
      refine tri_seq ?_
      refine tri_region ?_
      refine s_mv (.inr rfl) (v := .sc (.bool false)) rfl rfl rfl rfl ?_
      refine rt_nil ?_
      refine tri_ret ?_
      have e0 := (some1 h); subst e0
      exact endY [] [] (rvC (resTmp rfl) rvN) trivial trivial rfl rfl rfl rfl (.free rfl)
    · replace h := cond_f h c2
      refine tri_skip ?_
      refine tri_seq ?_
      refine tri_seq ?_
      refine tri_region ?_
      refine s_fieldAddr rfl rfl fd67_2 rfl rfl rfl rfl ?_
      refine s_load rfl rfl rfl rfl ty3 rfl (.inr rfl) (by conv => lhs; whnf) rfl rfl rfl ?_
      refine s_fieldAddr rfl rfl fd67_2 rfl rfl rfl rfl ?_
      refine s_load rfl rfl rfl rfl ty3 rfl (.inr rfl) (by conv => lhs; whnf) rfl rfl rfl ?_
      refine s_of (st_neI rfl rfl rfl) rfl rfl rfl rfl ?_
      refine rt_nil ?_
      refine tri_cond rfl (fun c3 => ?_) (fun c3 => ?_)
      · replace h := cond_t h c3
        refine tri_seq ?_
        refine tri_region ?_
        refine s_mv (.inr rfl) (v := .sc (.bool false)) rfl rfl rfl rfl ?_
        refine rt_nil ?_
        refine tri_ret ?_
        have e0 := (some1 h); subst e0
        exact endY [] [] (rvC (resTmp rfl) rvN) trivial trivial rfl rfl rfl rfl (.free rfl)
      · replace h := cond_f h c3
        refine tri_skip ?_
        refine tri_seq ?_
        refine tri_seq ?_
        refine tri_region ?_
        refine s_fieldAddr rfl rfl fd67_3 rfl rfl rfl rfl ?_
        refine s_load rfl rfl rfl rfl ty3 rfl (.inr rfl) (by conv => lhs; whnf) rfl rfl rfl ?_
        refine s_fieldAddr rfl rfl fd67_3 rfl rfl rfl rfl ?_
        refine s_load rfl rfl rfl rfl ty3 rfl (.inr rfl) (by conv => lhs; whnf) rfl rfl rfl ?_
        refine s_of (st_neI rfl rfl rfl) rfl rfl rfl rfl ?_
        refine rt_nil ?_
        refine tri_cond rfl (fun c4 => ?_) (fun c4 => ?_)
        · replace h := cond_t h c4
          refine tri_seq ?_
          refine tri_region ?_
          refine s_mv (.inr rfl) (v := .sc (.bool false)) rfl rfl rfl rfl ?_
          refine rt_nil ?_
          refine tri_ret ?_
          have e0 := (some1 h); subst e0
          exact endY [] [] (rvC (resTmp rfl) rvN) trivial trivial rfl rfl rfl rfl (.free rfl)
        · replace h := cond_f h c4
          refine tri_skip ?_
          refine tri_seq ?_
          refine tri_seq ?_
          refine tri_region ?_
          refine s_fieldAddr rfl rfl fd67_4 rfl rfl rfl rfl ?_
          refine s_load rfl rfl rfl rfl ty9 rfl (.inr rfl) (by conv => lhs; whnf) rfl rfl rfl ?_
          refine s_fieldAddr rfl rfl fd67_4 rfl rfl rfl rfl ?_
          refine s_load rfl rfl rfl rfl ty9 rfl (.inr rfl) (by conv => lhs; whnf) rfl rfl rfl ?_
          refine s_of (st_neS rfl rfl rfl) rfl rfl rfl rfl ?_
          refine rt_nil ?_
          refine tri_cond rfl (fun c5 => ?_) (fun c5 => ?_)
          · replace h := cond_t h c5
            refine tri_seq ?_
            refine tri_region ?_
            refine s_mv (.inr rfl) (v := .sc (.bool false)) rfl rfl rfl rfl ?_
            refine rt_nil ?_
            refine tri_ret ?_
            have e0 := (some1 h); subst e0
            exact endY [] [] (rvC (resTmp rfl) rvN) trivial trivial rfl rfl rfl rfl (.free rfl)
          · replace h := cond_f h c5
            refine tri_skip ?_
            refine tri_seq ?_
            refine tri_seq ?_
            refine tri_region ?_
            refine s_fieldAddr rfl rfl fd67_5 rfl rfl rfl rfl ?_
            refine s_load rfl rfl rfl rfl ty9 rfl (.inr rfl) (by conv => lhs; whnf) rfl rfl rfl ?_
            refine s_fieldAddr rfl rfl fd67_5 rfl rfl rfl rfl ?_
            refine s_load rfl rfl rfl rfl ty9 rfl (.inr rfl) (by conv => lhs; whnf) rfl rfl rfl ?_
            refine s_of (st_neS rfl rfl rfl) rfl rfl rfl rfl ?_
            refine rt_nil ?_
            refine tri_cond rfl (fun c6 => ?_) (fun c6 => ?_)
            · replace h := cond_t h c6
              refine tri_seq ?_
              refine tri_region ?_
              refine s_mv (.inr rfl) (v := .sc (.bool false)) rfl rfl rfl rfl ?_
              refine rt_nil ?_
              refine tri_ret ?_
              have e0 := (some1 h); subst e0
              exact endY [] [] (rvC (resTmp rfl) rvN) trivial trivial rfl rfl rfl rfl (.free rfl)
            · replace h := cond_f h c6
              refine tri_skip ?_
              refine tri_seq ?_
              refine tri_region ?_
              refine s_mv (.inr rfl) (v := .sc (.bool true)) rfl rfl rfl rfl ?_
              refine rt_nil ?_
              refine tri_ret ?_
              have e0 := (some1 h); subst e0
              exact endY [] [] (rvC (resTmp rfl) rvN) trivial trivial rfl rfl rfl rfl (.free rfl)

/- laws.eqRecordS -/
def inv_w_eqRecordS_0 (p0 : List Rec) (p1 : List Rec) (v0_0 : Nat) : St := mkT 27 [(0, .lst 6 (List.map recV p0)), (1, .lst 6 (List.map recV p1)), (5, .sc (.int .i64 (v0_0 : Int)))] []
set_option maxRecDepth 4000 in
set_option maxHeartbeats 800000 in
theorem ww_eqRecordS (p0 : List Rec) (p1 : List Rec) (r0 : Bool) (h : w_eqRecordS p0 p1 = some r0) : Runs Try.prog 17 [.lst 6 (List.map recV p0), .lst 6 (List.map recV p1)] [] (.sc (.bool r0)) [] := by
  unfold w_eqRecordS at h
  refine runsR [.tmp 4] Try.func17 rfl rfl rfl rfl ?_
  rw [Try.ntmps17]
  refine tri_seq ?_
  refine tri_region ?_
  refine s_mv (.inr rfl) (v := .sc (.bool false)) rfl rfl rfl rfl ?_
  refine rt_nil ?_
  refine tri_seq ?_
  refine tri_seq ?_
  refine tri_region ?_
  refine s_mv (.inl rfl) (by conv => lhs; whnf) rfl rfl rfl ?_
  refine s_lenL rfl sl27 rfl rfl rfl rfl ?_
  refine s_mv (.inl rfl) (by conv => lhs; whnf) rfl rfl rfl ?_
  refine s_lenL rfl sl27 rfl rfl rfl rfl ?_
  refine s_of (st_neI rfl rfl rfl) rfl rfl rfl rfl ?_
  refine rt_nil ?_
  refine tri_cond rfl (fun c1 => ?_) (fun c1 => ?_)
  · replace h := cond_t h c1
    refine tri_seq ?_
    refine tri_region ?_
    refine s_mv (.inr rfl) (v := .sc (.bool false)) rfl rfl rfl rfl ?_
    refine rt_nil ?_
    refine tri_ret ?_
    have e0 := (some1 h); subst e0
    exact endY [] [] (rvC (resTmp rfl) rvN) trivial trivial rfl rfl rfl rfl (.free rfl)
  · replace h := cond_f h c1
    refine tri_skip ?_
    refine tri_seq ?_
    refine tri_seq ?_
    refine tri_region ?_
    refine s_mv (.inr rfl) (v := .sc (.int .i64 0)) rfl rfl rfl rfl ?_
    refine rt_nil ?_
    refine tri_block ?_
    refine tri_lstM 0 rfl (fun hl0 => ?_)
    refine tri_loop (ι := { p : (List Rec) × Nat // p0.drop p.2 = p.1 ∧ w_eqRecordS_l0 p1 p.1 p.2 = some r0 }) (fun p => inv_w_eqRecordS_0 p0 p1 p.1.2) (fun p => p.1.1.length) ⟨(p0, 0), rfl, h⟩ ?_ ?_
    · skip
      refine entX [] [] trivial trivial rfl rfl ?_
      exact ⟨(.free rfl), (.free rfl), (.free rfl), trivial⟩
    · rintro ⟨⟨lrs0, v0_0⟩, hd0, h⟩
      replace hd0 : p0.drop v0_0 = lrs0 := hd0
      replace h : w_eqRecordS_l0 p1 lrs0 v0_0 = some r0 := h
      show Tri _ _ _ (inv_w_eqRecordS_0 p0 p1 v0_0)
      refine tri_seq ?_
      refine tri_seq ?_
      refine tri_region ?_
      refine s_mv (.inl rfl) (by conv => lhs; whnf) rfl rfl rfl ?_
      refine s_mv (.inl rfl) (by conv => lhs; whnf) rfl rfl rfl ?_
      refine s_lenL rfl sl27 rfl rfl rfl rfl ?_
      refine s_of (st_lss rfl rfl rfl) rfl rfl rfl rfl ?_
      refine rt_nil ?_
      refine tri_cond rfl (fun c2 => ?_) (fun c2 => ?_)
      · refine drop_elim hd0 c2 fun e0 rs0 he hx0 hn0 => ?_
        subst he
        rw [w_eqRecordS_l0] at h
        refine tri_skip ?_
        refine tri_seq ?_
        refine tri_block ?_
        refine tri_seq ?_
        refine tri_draw mixed ?_
        refine s_mv (.inl rfl) (by conv => lhs; whnf) rfl rfl rfl ?_
        refine s_mv (.inl rfl) (by conv => lhs; whnf) rfl rfl rfl ?_
        refine s_indexF (i := v0_0) rfl rfl rfl sl27 (get_ltM hx0) rfl rfl rfl ?_
        refine s_loadFR rfl rfl (rowG hx0) ty67 rfl rfl rfl ?_
        refine s_mv (.inl rfl) (by conv => lhs; whnf) rfl rfl rfl ?_
        refine s_mv (.inl rfl) (by conv => lhs; whnf) rfl rfl rfl ?_
        refine bnd1_elim h fun x3 q4 h => ?_
        have q4a := (idx_some q4).1; have q4b := (idx_some q4).2
        refine s_indexFZ rfl rfl rfl sl27 q4a (get_ltM q4b) rfl rfl rfl ?_
        refine s_loadFR rfl rfl (rowG q4b) ty67 rfl rfl rfl ?_
        refine bnd1_elim h fun x5 q6 h => ?_
        refine s_callN (kb := []) (ns := []) (v := .sc (.bool x5)) rfl rfl cl39 (ww_eqRecord e0 x3 x5 q6) rfl (.cons (relAgg rfl) (.cons (relAgg rfl) .nil)) trivial memNil .nil memNil rfl trivial memNil rfl rfl rfl rfl rfl rfl ?_
        refine s_of (st_not rfl rfl) rfl rfl rfl rfl ?_
        refine rt_nil ⟨by kernel_rfl, ?_⟩
        refine tri_cond rfl (fun c7 => ?_) (fun c7 => ?_)
        · replace h := cond_t h c7
          refine tri_seq ?_
          refine tri_region ?_
          refine s_mv (.inr rfl) (v := .sc (.bool false)) rfl rfl rfl rfl ?_
          refine rt_nil ?_
          refine tri_ret ?_
          have e0 := (some1 h); subst e0
          exact endY [] [] (rvC (resTmp rfl) rvN) trivial trivial rfl rfl rfl rfl (.free rfl)
        · replace h := cond_f h c7
          refine tri_skip ?_
          refine tri_region ?_
          refine s_mv (.inl rfl) (by conv => lhs; whnf) rfl rfl rfl ?_
          refine s_inc (a := v0_0) (b := 1) rfl rfl rfl rfl (by have := get_lt hx0; have := hl0; omega) rfl rfl rfl ?_
          refine s_mv (.inr rfl) (by conv => lhs; whnf) rfl rfl rfl ?_
          refine rt_nil ?_
          refine Exists.intro ⟨(rs0, (v0_0 + 1)), hn0, h⟩ (And.intro (Nat.lt_succ_self _) ?_)
          refine entX [] [] trivial trivial rfl rfl ?_
          exact ⟨(.free rfl), (.free rfl), (.free rfl), trivial⟩
      · have he := drop_f hd0 c2; subst he
        rw [w_eqRecordS_l0] at h
        refine tri_exit ?_
        refine tri_seq ?_
        refine tri_region ?_
        refine s_mv (.inr rfl) (v := .sc (.bool true)) rfl rfl rfl rfl ?_
        refine rt_nil ?_
        refine tri_ret ?_
        have e0 := (some1 h); subst e0
        exact endY [] [] (rvC (resTmp rfl) rvN) trivial trivial rfl rfl rfl rfl (.free rfl)

/- laws.eqZone -/

set_option maxRecDepth 4000 in
set_option maxHeartbeats 800000 in
theorem ww_eqZone (p0 : MZone) (p1 : MZone) (r0 : Bool) (h : w_eqZone p0 p1 = some r0) : Runs Try.prog 18 [.agg (mZoneV p0), .agg (mZoneV p1)] [] (.sc (.bool r0)) [] := by
  unfold w_eqZone at h
  refine runsR [.tmp 4] Try.func18 rfl rfl rfl rfl ?_
  rw [Try.ntmps18]
  refine tri_seq ?_
  refine tri_region ?_
  refine s_box rfl rfl rfl rfl rfl rfl rfl ?_
  refine s_box rfl rfl rfl rfl rfl rfl rfl ?_
  refine s_mv (.inr rfl) (v := .sc (.bool false)) rfl rfl rfl rfl ?_
  refine rt_nil ?_
  refine tri_seq ?_
  refine tri_seq ?_
  refine tri_region ?_
  refine s_fieldAddr rfl rfl fd39_0 rfl rfl rfl rfl ?_
  refine s_load rfl rfl rfl rfl ty9 rfl (.inr rfl) (by conv => lhs; whnf) rfl rfl rfl ?_
  refine s_fieldAddr rfl rfl fd39_0 rfl rfl rfl rfl ?_
  refine s_load rfl rfl rfl rfl ty9 rfl (.inr rfl) (by conv => lhs; whnf) rfl rfl rfl ?_
  refine s_of (st_neS rfl rfl rfl) rfl rfl rfl rfl ?_
  refine rt_nil ?_
  refine tri_cond rfl (fun c1 => ?_) (fun c1 => ?_)
  · replace h := cond_t h c1
    refine tri_seq ?_
    refine tri_region ?_
    refine s_mv (.inr rfl) (v := .sc (.bool false)) rfl rfl rfl rfl ?_
    refine rt_nil ?_
    refine tri_ret ?_
    have e0 := (some1 h); subst e0
    exact endY [] [] (rvC (resTmp rfl) rvN) trivial trivial rfl rfl rfl rfl (.free rfl)
  · replace h := cond_f h c1
    refine tri_skip ?_
    refine tri_seq ?_
    refine tri_seq ?_
    refine tri_region ?_
    refine s_fieldAddr rfl rfl fd39_1 rfl rfl rfl rfl ?_
    refine s_load rfl rfl rfl rfl ty27 rfl (.inr rfl) (by conv => lhs; whnf) rfl rfl rfl ?_
    refine s_fieldAddr rfl rfl fd39_1 rfl rfl rfl rfl ?_
    refine s_load rfl rfl rfl rfl ty27 rfl (.inr rfl) (by conv => lhs; whnf) rfl rfl rfl ?_
    refine bnd1_elim h fun x2 q3 h => ?_
    refine s_callN (kb := []) (ns := []) (v := .sc (.bool x2)) rfl rfl cl17 (ww_eqRecordS p0.l p1.l x2 q3) rfl (.cons (.free rfl) (.cons (.free rfl) .nil)) trivial memNil .nil memNil rfl trivial memNil rfl rfl rfl rfl rfl rfl ?_
    refine s_of (st_not rfl rfl) rfl rfl rfl rfl ?_
    refine rt_nil ?_
    refine tri_cond rfl (fun c4 => ?_) (fun c4 => ?_)
    · replace h := cond_t h c4
      refine tri_seq ?_
      refine tri_region ?_
      refine s_mv (.inr rfl) (v := .sc (.bool false)) rfl rfl rfl rfl ?_
      refine rt_nil ?_
      refine tri_ret ?_
      have e0 := (some1 h); subst e0
      exact endY [] [] (rvC (resTmp rfl) rvN) trivial trivial rfl rfl rfl rfl (.free rfl)
    · replace h := cond_f h c4
      refine tri_skip ?_
      refine tri_seq ?_
      refine tri_region ?_
      refine s_mv (.inr rfl) (v := .sc (.bool true)) rfl rfl rfl rfl ?_
      refine rt_nil ?_
      refine tri_ret ?_
      have e0 := (some1 h); subst e0
      exact endY [] [] (rvC (resTmp rfl) rvN) trivial trivial rfl rfl rfl rfl (.free rfl)

/- laws.eqStringS -/
def inv_w_eqStringS_0 (p0 : List ByteArray) (p1 : List ByteArray) (v0_0 : Nat) : St := mkT 26 [(0, .lst 1 (List.map strV p0)), (1, .lst 1 (List.map strV p1)), (5, .sc (.int .i64 (v0_0 : Int)))] []
set_option maxRecDepth 4000 in
set_option maxHeartbeats 800000 in
theorem ww_eqStringS (p0 : List ByteArray) (p1 : List ByteArray) (r0 : Bool) (h : w_eqStringS p0 p1 = some r0) : Runs Try.prog 19 [.lst 1 (List.map strV p0), .lst 1 (List.map strV p1)] [] (.sc (.bool r0)) [] := by
  unfold w_eqStringS at h
  refine runsR [.tmp 4] Try.func19 rfl rfl rfl rfl ?_
  rw [Try.ntmps19]
  refine tri_seq ?_
  refine tri_region ?_
  refine s_mv (.inr rfl) (v := .sc (.bool false)) rfl rfl rfl rfl ?_
  refine rt_nil ?_
  refine tri_seq ?_
  refine tri_seq ?_
  refine tri_region ?_
  refine s_mv (.inl rfl) (by conv => lhs; whnf) rfl rfl rfl ?_
  refine s_lenL rfl sl34 rfl rfl rfl rfl ?_
  refine s_mv (.inl rfl) (by conv => lhs; whnf) rfl rfl rfl ?_
  refine s_lenL rfl sl34 rfl rfl rfl rfl ?_
  refine s_of (st_neI rfl rfl rfl) rfl rfl rfl rfl ?_
  refine rt_nil ?_
  refine tri_cond rfl (fun c1 => ?_) (fun c1 => ?_)
  · replace h := cond_t h c1
    refine tri_seq ?_
    refine tri_region ?_
    refine s_mv (.inr rfl) (v := .sc (.bool false)) rfl rfl rfl rfl ?_
    refine rt_nil ?_
    refine tri_ret ?_
    have e0 := (some1 h); subst e0
    exact endY [] [] (rvC (resTmp rfl) rvN) trivial trivial rfl rfl rfl rfl (.free rfl)
  · replace h := cond_f h c1
    refine tri_skip ?_
    refine tri_seq ?_
    refine tri_seq ?_
    refine tri_region ?_
    refine s_mv (.inr rfl) (v := .sc (.int .i64 0)) rfl rfl rfl rfl ?_
    refine rt_nil ?_
    refine tri_block ?_
    refine tri_lstM 0 rfl (fun hl0 => ?_)
    refine tri_loop (ι := { p : (List ByteArray) × Nat // p0.drop p.2 = p.1 ∧ w_eqStringS_l0 p1 p.1 p.2 = some r0 }) (fun p => inv_w_eqStringS_0 p0 p1 p.1.2) (fun p => p.1.1.length) ⟨(p0, 0), rfl, h⟩ ?_ ?_
    · skip
      refine entX [] [] trivial trivial rfl rfl ?_
      exact ⟨(.free rfl), (.free rfl), (.free rfl), trivial⟩
    · rintro ⟨⟨lrs0, v0_0⟩, hd0, h⟩
      replace hd0 : p0.drop v0_0 = lrs0 := hd0
      replace h : w_eqStringS_l0 p1 lrs0 v0_0 = some r0 := h
      show Tri _ _ _ (inv_w_eqStringS_0 p0 p1 v0_0)
      refine tri_seq ?_
      refine tri_seq ?_
      refine tri_region ?_
      refine s_mv (.inl rfl) (by conv => lhs; whnf) rfl rfl rfl ?_
      refine s_mv (.inl rfl) (by conv => lhs; whnf) rfl rfl rfl ?_
      refine s_lenL rfl sl34 rfl rfl rfl rfl ?_
      refine s_of (st_lss rfl rfl rfl) rfl rfl rfl rfl ?_
      refine rt_nil ?_
      refine tri_cond rfl (fun c2 => ?_) (fun c2 => ?_)
      · refine drop_elim hd0 c2 fun e0 rs0 he hx0 hn0 => ?_
        subst he
        rw [w_eqStringS_l0] at h
        refine tri_skip ?_
        refine tri_seq ?_
        refine tri_block ?_
        refine tri_seq ?_
        refine tri_draw mixed ?_
        refine s_mv (.inl rfl) (by conv => lhs; whnf) rfl rfl rfl ?_
        refine s_mv (.inl rfl) (by conv => lhs; whnf) rfl rfl rfl ?_
        refine s_indexF (i := v0_0) rfl rfl rfl sl34 (get_ltM hx0) rfl rfl rfl ?_
        refine s_loadF rfl rfl (rowG hx0) ty9 rfl (.inr rfl) (by conv => lhs; whnf) rfl rfl rfl ?_
        refine s_mv (.inl rfl) (by conv => lhs; whnf) rfl rfl rfl ?_
        refine s_mv (.inl rfl) (by conv => lhs; whnf) rfl rfl rfl ?_
        refine bnd1_elim h fun x3 q4 h => ?_
        have q4a := (idx_some q4).1; have q4b := (idx_some q4).2
        refine s_indexFZ rfl rfl rfl sl34 q4a (get_ltM q4b) rfl rfl rfl ?_
        refine s_loadF rfl rfl (rowG q4b) ty9 rfl (.inr rfl) (by conv => lhs; whnf) rfl rfl rfl ?_
        refine s_of (st_neS rfl rfl rfl) rfl rfl rfl rfl ?_
        refine rt_nil ⟨by kernel_rfl, ?_⟩
        refine tri_cond rfl (fun c5 => ?_) (fun c5 => ?_)
        · replace h := cond_t h c5
          refine tri_seq ?_
          refine tri_region ?_
          refine s_mv (.inr rfl) (v := .sc (.bool false)) rfl rfl rfl rfl ?_
          refine rt_nil ?_
          refine tri_ret ?_
          have e0 := (some1 h); subst e0
          exact endY [] [] (rvC (resTmp rfl) rvN) trivial trivial rfl rfl rfl rfl (.free rfl)
        · replace h := cond_f h c5
          refine tri_skip ?_
          refine tri_region ?_
          refine s_mv (.inl rfl) (by conv => lhs; whnf) rfl rfl rfl ?_
          refine s_inc (a := v0_0) (b := 1) rfl rfl rfl rfl (by have := get_lt hx0; have := hl0; omega) rfl rfl rfl ?_
          refine s_mv (.inr rfl) (by conv => lhs; whnf) rfl rfl rfl ?_
          refine rt_nil ?_
          refine Exists.intro ⟨(rs0, (v0_0 + 1)), hn0, h⟩ (And.intro (Nat.lt_succ_self _) ?_)
          refine entX [] [] trivial trivial rfl rfl ?_
          exact ⟨(.free rfl), (.free rfl), (.free rfl), trivial⟩
      · have he := drop_f hd0 c2; subst he
        rw [w_eqStringS_l0] at h
        refine tri_exit ?_
        refine tri_seq ?_
        refine tri_region ?_
        refine s_mv (.inr rfl) (v := .sc (.bool true)) rfl rfl rfl rfl ?_
        refine rt_nil ?_
        refine tri_ret ?_
        have e0 := (some1 h); subst e0
        exact endY [] [] (rvC (resTmp rfl) rvN) trivial trivial rfl rfl rfl rfl (.free rfl)

/- laws.markText -/
def inv_w_markText_0  (v0_0 : Int) (v0_1 : ByteArray) : St := mkT 20 [(0, .sc (.int .i64 v0_0)), (3, .sc (.string v0_1))] []
set_option maxRecDepth 4000 in
set_option maxHeartbeats 800000 in
theorem ww_markText (p0 : Int) (r0 : ByteArray) (h : w_markText p0 = some r0) : Runs Try.prog 40 [.sc (.int .i64 p0)] [] (.sc (.string r0)) [] := by
  unfold w_markText at h
  refine runsR [.tmp 2] Try.func40 rfl rfl rfl rfl ?_
  rw [Try.ntmps40]
  refine tri_seq ?_
  refine tri_region ?_
  refine s_mv (.inr rfl) (v := .sc (.string (⟨#[]⟩ : ByteArray))) rfl rfl rfl rfl ?_
  refine rt_nil ?_
  refine tri_seq ?_
  refine tri_seq ?_
  refine tri_region ?_
  refine s_mv (.inl rfl) (by conv => lhs; whnf) rfl rfl rfl ?_
  refine s_of (st_leq rfl rfl rfl) rfl rfl rfl rfl ?_
  refine rt_nil ?_
  refine tri_cond rfl (fun c1 => ?_) (fun c1 => ?_)
  · replace h := cond_t h c1
    refine tri_seq ?_
    refine tri_region ?_
    refine s_mv (.inr rfl) (v := .sc (.string (⟨#[109, 48]⟩ : ByteArray))) rfl rfl rfl rfl ?_
    refine rt_nil ?_
    refine tri_ret ?_
    have e0 := (some1 h); subst e0
    exact endY [] [] (rvC (resTmp rfl) rvN) trivial trivial rfl rfl rfl rfl (.free rfl)
  · replace h := cond_f h c1
    refine tri_skip ?_
    refine tri_seq ?_
    refine tri_region ?_
    refine s_mv (.inr rfl) (v := .sc (.string (⟨#[]⟩ : ByteArray))) rfl rfl rfl rfl ?_
    refine rt_nil ?_
    refine tri_seq ?_
    refine tri_block ?_
    refine tri_loop (ι := { p : Nat × Int × ByteArray // w_markText_l0 p.1 p.2.1 p.2.2 = some r0 }) (fun p => inv_w_markText_0 p.1.2.1 p.1.2.2) (fun p => p.1.1) ⟨(fuel0, p0, (⟨#[]⟩ : ByteArray)), h⟩ ?_ ?_
    · skip
      refine entX [] [] trivial trivial rfl rfl ?_
      exact ⟨(.free rfl), (.free rfl), trivial⟩
    · rintro ⟨⟨f0, v0_0, v0_1⟩, h⟩
      replace h : w_markText_l0 f0 v0_0 v0_1 = some r0 := h
      cases f0 with
      | zero => cases h
      | succ f0 =>
      rw [w_markText_l0] at h
      show Tri _ _ _ (inv_w_markText_0 v0_0 v0_1)
      refine tri_seq ?_
      refine tri_seq ?_
      refine tri_region ?_
      refine s_mv (.inl rfl) (by conv => lhs; whnf) rfl rfl rfl ?_
      refine s_of (st_gtr rfl rfl rfl) rfl rfl rfl rfl ?_
      refine rt_nil ?_
      refine tri_cond rfl (fun c2 => ?_) (fun c2 => ?_)
      · replace h := cond_t h c2
        refine tri_skip ?_
        refine tri_block ?_
        refine tri_seq ?_
        refine tri_region ?_
        refine s_mv (.inl rfl) (by conv => lhs; whnf) rfl rfl rfl ?_
        refine s_of (st_rem rfl rfl rfl (by decide)) rfl rfl rfl rfl ?_
        refine grd_elim h fun g3 h => ?_
        refine s_addI rfl rfl rfl rfl g3 rfl rfl rfl ?_
        refine s_of (st_conv ik3 ik5 rfl rfl) rfl rfl rfl rfl ?_
        refine s_buildSlice (rows' := List.map byteV [IntKind.u8.wrap (48 + (Int.tmod v0_0 10))]) rfl rfl rfl sl77 zc5 rfl rfl rfl rfl rfl rfl rfl rfl rfl ?_
        refine s_toString rfl (src_refL rfl rfl) byt77 iss9 rfl rfl rfl rfl ?_
        refine s_mv (.inl rfl) (by conv => lhs; whnf) rfl rfl rfl ?_
        refine grd_elim h fun g4 h => ?_
        refine s_of (st_catS g4 rfl rfl rfl) rfl rfl rfl rfl ?_
        refine s_mv (.inr rfl) (by conv => lhs; whnf) rfl rfl rfl ?_
        refine rt_nil ?_
        refine tri_region ?_
        refine s_mv (.inl rfl) (by conv => lhs; whnf) rfl rfl rfl ?_
        refine s_of (st_quo rfl rfl rfl (by decide)) rfl rfl rfl rfl ?_
        refine s_mv (.inr rfl) (by conv => lhs; whnf) rfl rfl rfl ?_
        refine rt_nil ?_
        refine Exists.intro ⟨(f0, IntKind.i64.wrap (Int.tdiv v0_0 10), (strOfNums [IntKind.u8.wrap (48 + (Int.tmod v0_0 10))]) ++ v0_1), h⟩ (And.intro (Nat.lt_succ_self _) ?_)
        refine entX [] [] trivial trivial rfl rfl ?_
        exact ⟨(.free rfl), (.free rfl), trivial⟩
      · replace h := cond_f h c2
        refine tri_exit ?_
        refine tri_seq ?_
        refine tri_region ?_
        refine s_mv (.inl rfl) (by conv => lhs; whnf) rfl rfl rfl ?_
        refine grd_elim h fun g5 h => ?_
        refine s_of (st_catS g5 rfl rfl rfl) rfl rfl rfl rfl ?_
        refine s_mv (.inr rfl) (by conv => lhs; whnf) rfl rfl rfl ?_
        refine rt_nil ?_
        refine tri_ret ?_
        have e0 := (some1 h); subst e0
        exact endY [] [] (rvC (resTmp rfl) rvN) trivial trivial rfl rfl rfl rfl (.free rfl)

/- laws.markRecordS -/
def inv_w_markRecordS_0  (v0_0 : List Rec) (v0_1 : Int) (v0_2 : Int) : St := mkT 58 [(0, .ref (1000, 0) 0 v0_0.length), (1, .sc (.int .i64 v0_1)), (5, .sc (.int .i64 v0_2))] [((1000, 0), some ⟨67, 6, List.map recV v0_0, false, false⟩)]
set_option maxRecDepth 4000 in
set_option maxHeartbeats 800000 in
theorem ww_markRecordS (p0 : List Rec) (p1 : Int) (r0 : Int) (r1 : List Rec) (h : w_markRecordS p0 p1 = some (r0, r1)) : Runs Try.prog 22 [.ref (1000, 0) 0 p0.length, .sc (.int .i64 p1)] [⟨67, 6, List.map recV p0, false, false⟩] (.sc (.int .i64 r0)) [⟨67, 6, List.map recV r1, false, false⟩] := by
  unfold w_markRecordS at h
  refine runsR [.tmp 4] Try.func22 rfl rfl rfl rfl ?_
  rw [Try.ntmps22]
  refine tri_seq ?_
  refine tri_region ?_
  refine s_mv (.inr rfl) (v := .sc (.int .i64 0)) rfl rfl rfl rfl ?_
  refine rt_nil ?_
  refine tri_seq ?_
  refine tri_seq ?_
  refine tri_region ?_
  refine s_mv (.inr rfl) (v := .sc (.int .i64 0)) rfl rfl rfl rfl ?_
  refine rt_nil ?_
  refine tri_block ?_
  refine tri_loop (ι := { p : Nat × (List Rec) × Int × Int // w_markRecordS_l0 p.1 p.2.1 p.2.2.1 p.2.2.2 = some (r0, r1) }) (fun p => inv_w_markRecordS_0 p.1.2.1 p.1.2.2.1 p.1.2.2.2) (fun p => p.1.1) ⟨(fuel0, p0, p1, 0), h⟩ ?_ ?_
  · skip
    refine entX [((1000, 0), ⟨67, 6, List.map recV p0, false, false⟩, some (1000, 0))] [] ⟨⟨rfl, _, rfl, rfl, rfl, rfl, id, rowsCv_eq rfl (allFree_map recV_free), rowsZ_map recV_len⟩, trivial⟩ trivial rfl rfl ?_
    exact ⟨(.ref rfl), (.free rfl), (.free rfl), trivial⟩
  · rintro ⟨⟨f0, v0_0, v0_1, v0_2⟩, h⟩
    replace h : w_markRecordS_l0 f0 v0_0 v0_1 v0_2 = some (r0, r1) := h
    cases f0 with
    | zero => cases h
    | succ f0 =>
    rw [w_markRecordS_l0] at h
    show Tri _ _ _ (inv_w_markRecordS_0 v0_0 v0_1 v0_2)
    refine tri_seq ?_
    refine tri_seq ?_
    refine tri_region ?_
    refine s_mv (.inl rfl) (by conv => lhs; whnf) rfl rfl rfl ?_
    refine s_mv (.inl rfl) (by conv => lhs; whnf) rfl rfl rfl ?_
    refine s_len (m := v0_0.length) rfl sl27 rfl rfl rfl rfl ?_
    refine s_of (st_lss rfl rfl rfl) rfl rfl rfl rfl ?_
    refine rt_nil ?_
    refine tri_cond rfl (fun c1 => ?_) (fun c1 => ?_)
    · replace h := cond_t h c1
      refine tri_skip ?_
      refine tri_seq ?_
      refine tri_block ?_
      refine tri_seq ?_
      refine tri_region ?_
      refine s_mv (.inl rfl) (by conv => lhs; whnf) rfl rfl rfl ?_
      refine s_mv (.inl rfl) (by conv => lhs; whnf) rfl rfl rfl ?_
      refine s_mv (.inl rfl) (by conv => lhs; whnf) rfl rfl rfl ?_
      refine bnd1_elim h fun x2 q3 h => ?_
      refine s_callN (kb := []) (ns := []) (v := .sc (.string x2)) rfl rfl cl40 (ww_markText v0_1 x2 q3) rfl (.cons (.free rfl) .nil) trivial memNil .nil memNil rfl trivial memNil rfl rfl rfl rfl rfl rfl ?_
      refine bnd1_elim h fun x4 q5 h => ?_
      have q5a := (idx_some q5).1; have q5b := (idx_some q5).2
      refine s_indexZ rfl rfl rfl rfl sl27 rfl q5a (get_lt q5b) rfl rfl rfl ?_
      refine s_fieldAddr rfl rfl fd67_0 rfl rfl rfl rfl ?_
      refine s_storeL (x' := Rec.mk x2 x4.ty x4.ttl x4.n x4.host x4.text) rfl rfl rfl q5b ty9 rfl rfl rfl rfl rfl rfl ?_
      refine rt_nil ?_
      refine tri_seq ?_
      refine tri_region ?_
      refine s_mv (.inl rfl) (by conv => lhs; whnf) rfl rfl rfl ?_
      refine grd_elim h fun g6 h => ?_
      refine s_addI rfl rfl rfl rfl g6 rfl rfl rfl ?_
      refine s_mv (.inr rfl) (by conv => lhs; whnf) rfl rfl rfl ?_
      refine rt_nil ?_
      refine tri_seq ?_
      refine tri_region ?_
      refine s_mv (.inl rfl) (by conv => lhs; whnf) rfl rfl rfl ?_
      refine s_mv (.inl rfl) (by conv => lhs; whnf) rfl rfl rfl ?_
      refine s_mv (.inl rfl) (by conv => lhs; whnf) rfl rfl rfl ?_
      refine s_indexZ rfl rfl rfl rfl sl27 rfl q5a (by have q := get_lt q5b; simpa only [List.length_set] using q) rfl rfl rfl ?_
      refine s_fieldAddr rfl rfl fd67_1 rfl rfl rfl rfl ?_
      refine s_storeL (x' := Rec.mk x2 (v0_1 + 1) x4.ttl x4.n x4.host x4.text) rfl rfl rfl (get_set q5b) ty3 rfl rfl rfl rfl rfl rfl ?_
      refine rt_nil ?_
      refine tri_seq ?_
      refine tri_region ?_
      refine s_mv (.inl rfl) (by conv => lhs; whnf) rfl rfl rfl ?_
      refine grd_elim h fun g7 h => ?_
      refine s_addI rfl rfl rfl rfl g7 rfl rfl rfl ?_
      refine s_mv (.inr rfl) (by conv => lhs; whnf) rfl rfl rfl ?_
      refine rt_nil ?_
      refine tri_seq ?_
      refine tri_region ?_
      refine s_mv (.inl rfl) (by conv => lhs; whnf) rfl rfl rfl ?_
      refine s_mv (.inl rfl) (by conv => lhs; whnf) rfl rfl rfl ?_
      refine s_mv (.inl rfl) (by conv => lhs; whnf) rfl rfl rfl ?_
      refine s_indexZ rfl rfl rfl rfl sl27 rfl q5a (by have q := get_lt q5b; simpa only [List.length_set] using q) rfl rfl rfl ?_
      refine s_fieldAddr rfl rfl fd67_2 rfl rfl rfl rfl ?_
      refine s_storeL (x' := Rec.mk x2 (v0_1 + 1) ((v0_1 + 1) + 1) x4.n x4.host x4.text) rfl rfl rfl (get_set (get_set q5b)) ty3 rfl rfl rfl rfl rfl rfl ?_
      refine rt_nil ?_
      refine tri_seq ?_
      refine tri_region ?_
      refine s_mv (.inl rfl) (by conv => lhs; whnf) rfl rfl rfl ?_
      refine grd_elim h fun g8 h => ?_
      refine s_addI rfl rfl rfl rfl g8 rfl rfl rfl ?_
      refine s_mv (.inr rfl) (by conv => lhs; whnf) rfl rfl rfl ?_
      refine rt_nil ?_
      refine tri_seq ?_
      refine tri_region ?_
      refine s_mv (.inl rfl) (by conv => lhs; whnf) rfl rfl rfl ?_
      refine s_mv (.inl rfl) (by conv => lhs; whnf) rfl rfl rfl ?_
      refine s_mv (.inl rfl) (by conv => lhs; whnf) rfl rfl rfl ?_
      refine s_indexZ rfl rfl rfl rfl sl27 rfl q5a (by have q := get_lt q5b; simpa only [List.length_set] using q) rfl rfl rfl ?_
      refine s_fieldAddr rfl rfl fd67_3 rfl rfl rfl rfl ?_
      refine s_storeL (x' := Rec.mk x2 (v0_1 + 1) ((v0_1 + 1) + 1) (((v0_1 + 1) + 1) + 1) x4.host x4.text) rfl rfl rfl (get_set (get_set (get_set q5b))) ty3 rfl rfl rfl rfl rfl rfl ?_
      refine rt_nil ?_
      refine tri_seq ?_
      refine tri_region ?_
      refine s_mv (.inl rfl) (by conv => lhs; whnf) rfl rfl rfl ?_
      refine grd_elim h fun g9 h => ?_
      refine s_addI rfl rfl rfl rfl g9 rfl rfl rfl ?_
      refine s_mv (.inr rfl) (by conv => lhs; whnf) rfl rfl rfl ?_
      refine rt_nil ?_
      refine tri_seq ?_
      refine tri_region ?_
      refine s_mv (.inl rfl) (by conv => lhs; whnf) rfl rfl rfl ?_
      refine s_mv (.inl rfl) (by conv => lhs; whnf) rfl rfl rfl ?_
      refine s_mv (.inl rfl) (by conv => lhs; whnf) rfl rfl rfl ?_
      refine bnd1_elim h fun x10 q11 h => ?_
      refine s_callN (kb := []) (ns := []) (v := .sc (.string x10)) rfl rfl cl40 (ww_markText ((((v0_1 + 1) + 1) + 1) + 1) x10 q11) rfl (.cons (.free rfl) .nil) trivial memNil .nil memNil rfl trivial memNil rfl rfl rfl rfl rfl rfl ?_
      refine s_indexZ rfl rfl rfl rfl sl27 rfl q5a (by have q := get_lt q5b; simpa only [List.length_set] using q) rfl rfl rfl ?_
      refine s_fieldAddr rfl rfl fd67_4 rfl rfl rfl rfl ?_
      refine s_storeL (x' := Rec.mk x2 (v0_1 + 1) ((v0_1 + 1) + 1) (((v0_1 + 1) + 1) + 1) x10 x4.text) rfl rfl rfl (get_set (get_set (get_set (get_set q5b)))) ty9 rfl rfl rfl rfl rfl rfl ?_
      refine rt_nil ?_
      refine tri_seq ?_
      refine tri_region ?_
      refine s_mv (.inl rfl) (by conv => lhs; whnf) rfl rfl rfl ?_
      refine grd_elim h fun g12 h => ?_
      refine s_addI rfl rfl rfl rfl g12 rfl rfl rfl ?_
      refine s_mv (.inr rfl) (by conv => lhs; whnf) rfl rfl rfl ?_
      refine rt_nil ?_
      refine tri_seq ?_
      refine tri_region ?_
      refine s_mv (.inl rfl) (by conv => lhs; whnf) rfl rfl rfl ?_
      refine s_mv (.inl rfl) (by conv => lhs; whnf) rfl rfl rfl ?_
      refine s_mv (.inl rfl) (by conv => lhs; whnf) rfl rfl rfl ?_
      refine bnd1_elim h fun x13 q14 h => ?_
      refine s_callN (kb := []) (ns := []) (v := .sc (.string x13)) rfl rfl cl40 (ww_markText (((((v0_1 + 1) + 1) + 1) + 1) + 1) x13 q14) rfl (.cons (.free rfl) .nil) trivial memNil .nil memNil rfl trivial memNil rfl rfl rfl rfl rfl rfl ?_
      refine s_indexZ rfl rfl rfl rfl sl27 rfl q5a (by have q := get_lt q5b; simpa only [List.length_set] using q) rfl rfl rfl ?_
      refine s_fieldAddr rfl rfl fd67_5 rfl rfl rfl rfl ?_
      refine s_storeL (x' := Rec.mk x2 (v0_1 + 1) ((v0_1 + 1) + 1) (((v0_1 + 1) + 1) + 1) x10 x13) rfl rfl rfl (get_set (get_set (get_set (get_set (get_set q5b))))) ty9 rfl rfl rfl rfl rfl rfl ?_
      refine rt_nil ?_
      refine tri_region ?_
      refine s_mv (.inl rfl) (by conv => lhs; whnf) rfl rfl rfl ?_
      refine grd_elim h fun g15 h => ?_
      refine s_addI rfl rfl rfl rfl g15 rfl rfl rfl ?_
      refine s_mv (.inr rfl) (by conv => lhs; whnf) rfl rfl rfl ?_
      refine rt_nil ?_
      refine tri_region ?_
      refine s_mv (.inl rfl) (by conv => lhs; whnf) rfl rfl rfl ?_
      refine grd_elim h fun g16 h => ?_
      refine s_addI rfl rfl rfl rfl g16 rfl rfl rfl ?_
      refine s_mv (.inr rfl) (by conv => lhs; whnf) rfl rfl rfl ?_
      refine rt_nil ?_
      refine Exists.intro ⟨(f0, (((((v0_0.set v0_2.toNat (Rec.mk x2 x4.ty x4.ttl x4.n x4.host x4.text)).set v0_2.toNat (Rec.mk x2 (v0_1 + 1) x4.ttl x4.n x4.host x4.text)).set v0_2.toNat (Rec.mk x2 (v0_1 + 1) ((v0_1 + 1) + 1) x4.n x4.host x4.text)).set v0_2.toNat (Rec.mk x2 (v0_1 + 1) ((v0_1 + 1) + 1) (((v0_1 + 1) + 1) + 1) x4.host x4.text)).set v0_2.toNat (Rec.mk x2 (v0_1 + 1) ((v0_1 + 1) + 1) (((v0_1 + 1) + 1) + 1) x10 x4.text)).set v0_2.toNat (Rec.mk x2 (v0_1 + 1) ((v0_1 + 1) + 1) (((v0_1 + 1) + 1) + 1) x10 x13), (((((v0_1 + 1) + 1) + 1) + 1) + 1) + 1, v0_2 + 1), h⟩ (And.intro (Nat.lt_succ_self _) ?_)
      refine entX [((1000, 0), ⟨67, 6, List.map recV ((((((v0_0.set v0_2.toNat (Rec.mk x2 x4.ty x4.ttl x4.n x4.host x4.text)).set v0_2.toNat (Rec.mk x2 (v0_1 + 1) x4.ttl x4.n x4.host x4.text)).set v0_2.toNat (Rec.mk x2 (v0_1 + 1) ((v0_1 + 1) + 1) x4.n x4.host x4.text)).set v0_2.toNat (Rec.mk x2 (v0_1 + 1) ((v0_1 + 1) + 1) (((v0_1 + 1) + 1) + 1) x4.host x4.text)).set v0_2.toNat (Rec.mk x2 (v0_1 + 1) ((v0_1 + 1) + 1) (((v0_1 + 1) + 1) + 1) x10 x4.text)).set v0_2.toNat (Rec.mk x2 (v0_1 + 1) ((v0_1 + 1) + 1) (((v0_1 + 1) + 1) + 1) x10 x13)), false, false⟩, some (1000, 0))] [] ⟨⟨rfl, _, rfl, rfl, rfl, rfl, id, rowsCv_eq rfl (allFree_map recV_free), rowsZ_map recV_len⟩, trivial⟩ trivial rfl rfl ?_
      exact ⟨(cvRefLen rfl (by simp only [List.length_set])), (.free rfl), (.free rfl), trivial⟩
    · replace h := cond_f h c1
      refine tri_exit ?_
      refine tri_seq ?_
      refine tri_region ?_
      refine s_mv (.inl rfl) (by conv => lhs; whnf) rfl rfl rfl ?_
      refine s_mv (.inr rfl) (by conv => lhs; whnf) rfl rfl rfl ?_
      refine rt_nil ?_
      refine tri_ret ?_
      have e0 := (some2 h).1; have e1 := (some2 h).2; subst e0; subst e1
      exact endY [((1000, 0), ⟨67, 6, List.map recV v0_0, false, false⟩, some (1000, 0))] [] (rvC (resTmp rfl) rvN) ⟨⟨rfl, _, rfl, rfl, rfl, rfl, id, rowsCv_eq rfl (allFree_map recV_free), rowsZ_map recV_len⟩, trivial⟩ trivial rfl rfl (by kernel_rfl) rfl (.free rfl)

/- laws.markZone -/

set_option maxRecDepth 4000 in
set_option maxHeartbeats 800000 in
theorem ww_markZone (p0 : MZone) (p1 : Int) (r0 : Int) (r1 : List Rec) (h : w_markZone p0 p1 = some (r0, r1)) : Runs Try.prog 20 [.agg [.sc (.string p0.apex), .ref (1000, 0) 0 p0.l.length], .sc (.int .i64 p1)] [⟨67, 6, List.map recV p0.l, false, false⟩] (.sc (.int .i64 r0)) [⟨67, 6, List.map recV r1, false, false⟩] := by
  unfold w_markZone at h
  refine runsR [.tmp 4] Try.func20 rfl rfl rfl rfl ?_
  rw [Try.ntmps20]
  refine tri_seq ?_
  refine tri_region ?_
  refine s_box rfl rfl rfl rfl rfl rfl rfl ?_
  refine s_mv (.inr rfl) (v := .sc (.int .i64 0)) rfl rfl rfl rfl ?_
  refine rt_nil ?_
  refine tri_seq ?_
  refine tri_region ?_
  refine s_fieldAddr rfl rfl fd39_1 rfl rfl rfl rfl ?_
  refine s_load rfl rfl rfl rfl ty27 rfl (.inr rfl) (by conv => lhs; whnf) rfl rfl rfl ?_
  refine s_mv (.inl rfl) (by conv => lhs; whnf) rfl rfl rfl ?_
  refine bnd2_elim h fun x1 x2 q3 h => ?_
  refine grd_elim h fun g4 h => ?_
  refine s_callN (kb := []) (ns := [(1000, 0)]) (v := .sc (.int .i64 x1)) rfl rfl cl22 (ww_markRecordS p0.l p1 x1 x2 q3) rfl (.cons (.refOwn rfl) (.cons (.free rfl) .nil)) ⟨⟨_, rfl, rfl⟩, trivial⟩ (memCons (allFree_map recV_free) memNil) (List.nodup_cons.2 ⟨List.not_mem_nil, .nil⟩) memNil rfl trivial (memCons (allSc_map recV_sc) memNil) rfl rfl rfl rfl rfl rfl ?_
  refine s_mv (.inr rfl) (by conv => lhs; whnf) rfl rfl rfl ?_
  refine rt_nil ?_
  refine tri_seq ?_
  refine tri_region ?_
  refine s_mv (.inl rfl) (by conv => lhs; whnf) rfl rfl rfl ?_
  refine s_mv (.inr rfl) (by conv => lhs; whnf) rfl rfl rfl ?_
  refine rt_nil ?_
  refine tri_ret ?_
  have e0 := (some2 h).1; have e1 := (some2 h).2; subst e0; subst e1
  exact endY [((1000, 0), ⟨67, 6, List.map recV x2, false, false⟩, some (1000, 0))] [] (rvC (resTmp rfl) rvN) ⟨⟨rfl, _, rfl, rfl, rfl, rfl, id, rowsCv_eq rfl (allFree_map recV_free), rowsZ_map recV_len⟩, trivial⟩ trivial rfl rfl (by kernel_rfl) rfl (.free rfl)

/- laws.markStringS -/
def inv_w_markStringS_0  (v0_0 : List ByteArray) (v0_1 : Int) (v0_2 : Int) : St := mkT 20 [(0, .ref (1000, 0) 0 v0_0.length), (1, .sc (.int .i64 v0_1)), (5, .sc (.int .i64 v0_2))] [((1000, 0), some ⟨9, 1, List.map strV v0_0, false, false⟩)]
set_option maxRecDepth 4000 in
set_option maxHeartbeats 800000 in
theorem ww_markStringS (p0 : List ByteArray) (p1 : Int) (r0 : Int) (r1 : List ByteArray) (h : w_markStringS p0 p1 = some (r0, r1)) : Runs Try.prog 21 [.ref (1000, 0) 0 p0.length, .sc (.int .i64 p1)] [⟨9, 1, List.map strV p0, false, false⟩] (.sc (.int .i64 r0)) [⟨9, 1, List.map strV r1, false, false⟩] := by
  unfold w_markStringS at h
  refine runsR [.tmp 4] Try.func21 rfl rfl rfl rfl ?_
  rw [Try.ntmps21]
  refine tri_seq ?_
  refine tri_region ?_
  refine s_mv (.inr rfl) (v := .sc (.int .i64 0)) rfl rfl rfl rfl ?_
  refine rt_nil ?_
  refine tri_seq ?_
  refine tri_seq ?_
  refine tri_region ?_
  refine s_mv (.inr rfl) (v := .sc (.int .i64 0)) rfl rfl rfl rfl ?_
  refine rt_nil ?_
  refine tri_block ?_
  refine tri_loop (ι := { p : Nat × (List ByteArray) × Int × Int // w_markStringS_l0 p.1 p.2.1 p.2.2.1 p.2.2.2 = some (r0, r1) }) (fun p => inv_w_markStringS_0 p.1.2.1 p.1.2.2.1 p.1.2.2.2) (fun p => p.1.1) ⟨(fuel0, p0, p1, 0), h⟩ ?_ ?_
  · skip
    refine entX [((1000, 0), ⟨9, 1, List.map strV p0, false, false⟩, some (1000, 0))] [] ⟨⟨rfl, _, rfl, rfl, rfl, rfl, id, rowsCv_eq rfl (allFree_map strV_free), rowsZ_map strV_len⟩, trivial⟩ trivial rfl rfl ?_
    exact ⟨(.ref rfl), (.free rfl), (.free rfl), trivial⟩
  · rintro ⟨⟨f0, v0_0, v0_1, v0_2⟩, h⟩
    replace h : w_markStringS_l0 f0 v0_0 v0_1 v0_2 = some (r0, r1) := h
    cases f0 with
    | zero => cases h
    | succ f0 =>
    rw [w_markStringS_l0] at h
    show Tri _ _ _ (inv_w_markStringS_0 v0_0 v0_1 v0_2)
    refine tri_seq ?_
    refine tri_seq ?_
    refine tri_region ?_
    refine s_mv (.inl rfl) (by conv => lhs; whnf) rfl rfl rfl ?_
    refine s_mv (.inl rfl) (by conv => lhs; whnf) rfl rfl rfl ?_
    refine s_len (m := v0_0.length) rfl sl34 rfl rfl rfl rfl ?_
    refine s_of (st_lss rfl rfl rfl) rfl rfl rfl rfl ?_
    refine rt_nil ?_
    refine tri_cond rfl (fun c1 => ?_) (fun c1 => ?_)
    · replace h := cond_t h c1
      refine tri_skip ?_
      refine tri_seq ?_
      refine tri_block ?_
      refine tri_seq ?_
      refine tri_region ?_
      refine s_mv (.inl rfl) (by conv => lhs; whnf) rfl rfl rfl ?_
      refine s_mv (.inl rfl) (by conv => lhs; whnf) rfl rfl rfl ?_
      refine s_mv (.inl rfl) (by conv => lhs; whnf) rfl rfl rfl ?_
      refine bnd1_elim h fun x2 q3 h => ?_
      refine s_callN (kb := []) (ns := []) (v := .sc (.string x2)) rfl rfl cl40 (ww_markText v0_1 x2 q3) rfl (.cons (.free rfl) .nil) trivial memNil .nil memNil rfl trivial memNil rfl rfl rfl rfl rfl rfl ?_
      refine bnd1_elim h fun x4 q5 h => ?_
      have q5a := (idx_some q5).1; have q5b := (idx_some q5).2
      refine s_indexZ rfl rfl rfl rfl sl34 rfl q5a (get_lt q5b) rfl rfl rfl ?_
      refine s_storeL (x' := x2) rfl rfl rfl q5b ty9 rfl rfl rfl rfl rfl rfl ?_
      refine rt_nil ?_
      refine tri_region ?_
      refine s_mv (.inl rfl) (by conv => lhs; whnf) rfl rfl rfl ?_
      refine grd_elim h fun g6 h => ?_
      refine s_addI rfl rfl rfl rfl g6 rfl rfl rfl ?_
      refine s_mv (.inr rfl) (by conv => lhs; whnf) rfl rfl rfl ?_
      refine rt_nil ?_
      refine tri_region ?_
      refine s_mv (.inl rfl) (by conv => lhs; whnf) rfl rfl rfl ?_
      refine grd_elim h fun g7 h => ?_
      refine s_addI rfl rfl rfl rfl g7 rfl rfl rfl ?_
      refine s_mv (.inr rfl) (by conv => lhs; whnf) rfl rfl rfl ?_
      refine rt_nil ?_
      refine Exists.intro ⟨(f0, v0_0.set v0_2.toNat x2, v0_1 + 1, v0_2 + 1), h⟩ (And.intro (Nat.lt_succ_self _) ?_)
      refine entX [((1000, 0), ⟨9, 1, List.map strV (v0_0.set v0_2.toNat x2), false, false⟩, some (1000, 0))] [] ⟨⟨rfl, _, rfl, rfl, rfl, rfl, id, rowsCv_eq rfl (allFree_map strV_free), rowsZ_map strV_len⟩, trivial⟩ trivial rfl rfl ?_
      exact ⟨(cvRefLen rfl (by simp only [List.length_set])), (.free rfl), (.free rfl), trivial⟩
    · replace h := cond_f h c1
      refine tri_exit ?_
      refine tri_seq ?_
      refine tri_region ?_
      refine s_mv (.inl rfl) (by conv => lhs; whnf) rfl rfl rfl ?_
      refine s_mv (.inr rfl) (by conv => lhs; whnf) rfl rfl rfl ?_
      refine rt_nil ?_
      refine tri_ret ?_
      have e0 := (some2 h).1; have e1 := (some2 h).2; subst e0; subst e1
      exact endY [((1000, 0), ⟨9, 1, List.map strV v0_0, false, false⟩, some (1000, 0))] [] (rvC (resTmp rfl) rvN) ⟨⟨rfl, _, rfl, rfl, rfl, rfl, id, rowsCv_eq rfl (allFree_map strV_free), rowsZ_map strV_len⟩, trivial⟩ trivial rfl rfl (by kernel_rfl) rfl (.free rfl)

/- laws.heldRecordS -/
def inv_w_heldRecordS_0 (p0 : List Rec) (v0_0 : Int) (v0_1 : Nat) : St := mkT 70 [(0, .lst 6 (List.map recV p0)), (1, .sc (.int .i64 v0_0)), (5, .sc (.int .i64 (v0_1 : Int)))] []
set_option maxRecDepth 4000 in
set_option maxHeartbeats 800000 in
theorem ww_heldRecordS (p0 : List Rec) (p1 : Int) (r0 : Int) (h : w_heldRecordS p0 p1 = some r0) : Runs Try.prog 23 [.lst 6 (List.map recV p0), .sc (.int .i64 p1)] [] (.sc (.int .i64 r0)) [] := by
  unfold w_heldRecordS at h
  refine runsR [.tmp 4] Try.func23 rfl rfl rfl rfl ?_
  rw [Try.ntmps23]
  refine tri_seq ?_
  refine tri_region ?_
  refine s_mv (.inr rfl) (v := .sc (.int .i64 0)) rfl rfl rfl rfl ?_
  refine rt_nil ?_
  refine tri_seq ?_
  refine tri_seq ?_
  refine tri_region ?_
  refine s_mv (.inr rfl) (v := .sc (.int .i64 0)) rfl rfl rfl rfl ?_
  refine rt_nil ?_
  refine tri_block ?_
  refine tri_lstM 0 rfl (fun hl0 => ?_)
  refine tri_loop (ι := { p : (List Rec) × Int × Nat // p0.drop p.2.2 = p.1 ∧ w_heldRecordS_l0 p.1 p.2.1 p.2.2 = some r0 }) (fun p => inv_w_heldRecordS_0 p0 p.1.2.1 p.1.2.2) (fun p => p.1.1.length) ⟨(p0, p1, 0), rfl, h⟩ ?_ ?_
  · skip
    refine entX [] [] trivial trivial rfl rfl ?_
    exact ⟨(.free rfl), (.free rfl), (.free rfl), trivial⟩
  · rintro ⟨⟨lrs0, v0_0, v0_1⟩, hd0, h⟩
    replace hd0 : p0.drop v0_1 = lrs0 := hd0
    replace h : w_heldRecordS_l0 lrs0 v0_0 v0_1 = some r0 := h
    show Tri _ _ _ (inv_w_heldRecordS_0 p0 v0_0 v0_1)
    refine tri_seq ?_
    refine tri_seq ?_
    refine tri_region ?_
    refine s_mv (.inl rfl) (by conv => lhs; whnf) rfl rfl rfl ?_
    refine s_mv (.inl rfl) (by conv => lhs; whnf) rfl rfl rfl ?_
    refine s_lenL rfl sl27 rfl rfl rfl rfl ?_
    refine s_of (st_lss rfl rfl rfl) rfl rfl rfl rfl ?_
    refine rt_nil ?_
    refine tri_cond rfl (fun c1 => ?_) (fun c1 => ?_)
    · refine drop_elim hd0 c1 fun e0 rs0 he hx0 hn0 => ?_
      subst he
      rw [w_heldRecordS_l0] at h
      refine tri_skip ?_
      refine tri_seq ?_
      refine tri_block ?_
      refine tri_seq ?_
      refine tri_seq ?_
      refine tri_draw mixed ?_
      refine s_mv (.inl rfl) (by conv => lhs; whnf) rfl rfl rfl ?_
      refine s_mv (.inl rfl) (by conv => lhs; whnf) rfl rfl rfl ?_
      refine s_indexF (i := v0_1) rfl rfl rfl sl27 (get_ltM hx0) rfl rfl rfl ?_
      refine s_fieldAddrF rfl rfl fd67_0 rfl rfl rfl rfl ?_
      refine s_loadF rfl rfl (rowG hx0) ty9 rfl (.inr rfl) (by conv => lhs; whnf) rfl rfl rfl ?_
      refine s_mv (.inl rfl) (by conv => lhs; whnf) rfl rfl rfl ?_
      refine bnd1_elim h fun x2 q3 h => ?_
      refine s_callN (kb := []) (ns := []) (v := .sc (.string x2)) rfl rfl cl40 (ww_markText v0_0 x2 q3) rfl (.cons (.free rfl) .nil) trivial memNil .nil memNil rfl trivial memNil rfl rfl rfl rfl rfl rfl ?_
      refine s_of (st_neS rfl rfl rfl) rfl rfl rfl rfl ?_
      refine rt_nil ⟨by kernel_rfl, ?_⟩
      refine tri_cond rfl (fun c4 => ?_) (fun c4 => ?_)
      · replace h := cond_t h c4
        refine tri_seq ?_
        refine tri_region ?_
        refine s_mv (.inr rfl) (v := .sc (.int .i64 (-1))) rfl rfl rfl rfl ?_
        refine rt_nil ?_
        refine tri_ret ?_
        have e0 := (some1 h); subst e0
        exact endY [] [] (rvC (resTmp rfl) rvN) trivial trivial rfl rfl rfl rfl (.free rfl)
      · replace h := cond_f h c4
        refine tri_skip ?_
        refine tri_seq ?_
        refine tri_region ?_
        refine s_mv (.inl rfl) (by conv => lhs; whnf) rfl rfl rfl ?_
        refine grd_elim h fun g5 h => ?_
        refine s_addI rfl rfl rfl rfl g5 rfl rfl rfl ?_
        refine s_mv (.inr rfl) (by conv => lhs; whnf) rfl rfl rfl ?_
        refine rt_nil ?_
        refine tri_seq ?_
        refine tri_seq ?_
        refine tri_region ?_
        refine s_mv (.inl rfl) (by conv => lhs; whnf) rfl rfl rfl ?_
        refine s_mv (.inl rfl) (by conv => lhs; whnf) rfl rfl rfl ?_
        refine s_indexF (i := v0_1) rfl rfl rfl sl27 (get_ltM hx0) rfl rfl rfl ?_
        refine s_fieldAddrF rfl rfl fd67_1 rfl rfl rfl rfl ?_
        refine s_loadF rfl rfl (rowG hx0) ty3 rfl (.inr rfl) (by conv => lhs; whnf) rfl rfl rfl ?_
        refine s_mv (.inl rfl) (by conv => lhs; whnf) rfl rfl rfl ?_
        refine s_of (st_neI rfl rfl rfl) rfl rfl rfl rfl ?_
        refine rt_nil ?_
        refine tri_cond rfl (fun c6 => ?_) (fun c6 => ?_)
        · replace h := cond_t h c6
          refine tri_seq ?_
          refine tri_region ?_
          refine s_mv (.inr rfl) (v := .sc (.int .i64 (-1))) rfl rfl rfl rfl ?_
          refine rt_nil ?_
          refine tri_ret ?_
          have e0 := (some1 h); subst e0
          exact endY [] [] (rvC (resTmp rfl) rvN) trivial trivial rfl rfl rfl rfl (.free rfl)
        · replace h := cond_f h c6
          refine tri_skip ?_
          refine tri_seq ?_
          refine tri_region ?_
          refine s_mv (.inl rfl) (by conv => lhs; whnf) rfl rfl rfl ?_
          refine grd_elim h fun g7 h => ?_
          refine s_addI rfl rfl rfl rfl g7 rfl rfl rfl ?_
          refine s_mv (.inr rfl) (by conv => lhs; whnf) rfl rfl rfl ?_
          refine rt_nil ?_
          refine tri_seq ?_
          refine tri_seq ?_
          refine tri_region ?_
          refine s_mv (.inl rfl) (by conv => lhs; whnf) rfl rfl rfl ?_
          refine s_mv (.inl rfl) (by conv => lhs; whnf) rfl rfl rfl ?_
          refine s_indexF (i := v0_1) rfl rfl rfl sl27 (get_ltM hx0) rfl rfl rfl ?_
          refine s_fieldAddrF rfl rfl fd67_2 rfl rfl rfl rfl ?_
          refine s_loadF rfl rfl (rowG hx0) ty3 rfl (.inr rfl) (by conv => lhs; whnf) rfl rfl rfl ?_
          refine s_mv (.inl rfl) (by conv => lhs; whnf) rfl rfl rfl ?_
          refine s_of (st_neI rfl rfl rfl) rfl rfl rfl rfl ?_
          refine rt_nil ?_
          refine tri_cond rfl (fun c8 => ?_) (fun c8 => ?_)
          · replace h := cond_t h c8
            refine tri_seq ?_
            refine tri_region ?_
            refine s_mv (.inr rfl) (v := .sc (.int .i64 (-1))) rfl rfl rfl rfl ?_
            refine rt_nil ?_
            refine tri_ret ?_
            have e0 := (some1 h); subst e0
            exact endY [] [] (rvC (resTmp rfl) rvN) trivial trivial rfl rfl rfl rfl (.free rfl)
          · replace h := cond_f h c8
            refine tri_skip ?_
            refine tri_seq ?_
            refine tri_region ?_
            refine s_mv (.inl rfl) (by conv => lhs; whnf) rfl rfl rfl ?_
            refine grd_elim h fun g9 h => ?_
            refine s_addI rfl rfl rfl rfl g9 rfl rfl rfl ?_
            refine s_mv (.inr rfl) (by conv => lhs; whnf) rfl rfl rfl ?_
            refine rt_nil ?_
            refine tri_seq ?_
            refine tri_seq ?_
            refine tri_region ?_
            refine s_mv (.inl rfl) (by conv => lhs; whnf) rfl rfl rfl ?_
            refine s_mv (.inl rfl) (by conv => lhs; whnf) rfl rfl rfl ?_
            refine s_indexF (i := v0_1) rfl rfl rfl sl27 (get_ltM hx0) rfl rfl rfl ?_
            refine s_fieldAddrF rfl rfl fd67_3 rfl rfl rfl rfl ?_
            refine s_loadF rfl rfl (rowG hx0) ty3 rfl (.inr rfl) (by conv => lhs; whnf) rfl rfl rfl ?_
            refine s_mv (.inl rfl) (by conv => lhs; whnf) rfl rfl rfl ?_
            refine s_of (st_neI rfl rfl rfl) rfl rfl rfl rfl ?_
            refine rt_nil ?_
            refine tri_cond rfl (fun c10 => ?_) (fun c10 => ?_)
            · replace h := cond_t h c10
              refine tri_seq ?_
              refine tri_region ?_
              refine s_mv (.inr rfl) (v := .sc (.int .i64 (-1))) rfl rfl rfl rfl ?_
              refine rt_nil ?_
              refine tri_ret ?_
              have e0 := (some1 h); subst e0
              exact endY [] [] (rvC (resTmp rfl) rvN) trivial trivial rfl rfl rfl rfl (.free rfl)
            · replace h := cond_f h c10
              refine tri_skip ?_
              refine tri_seq ?_
              refine tri_region ?_
              refine s_mv (.inl rfl) (by conv => lhs; whnf) rfl rfl rfl ?_
              refine grd_elim h fun g11 h => ?_
              refine s_addI rfl rfl rfl rfl g11 rfl rfl rfl ?_
              refine s_mv (.inr rfl) (by conv => lhs; whnf) rfl rfl rfl ?_
              refine rt_nil ?_
              refine tri_seq ?_
              refine tri_seq ?_
              refine tri_draw mixed ?_
              refine s_mv (.inl rfl) (by conv => lhs; whnf) rfl rfl rfl ?_
              refine s_mv (.inl rfl) (by conv => lhs; whnf) rfl rfl rfl ?_
              refine s_indexF (i := v0_1) rfl rfl rfl sl27 (get_ltM hx0) rfl rfl rfl ?_
              refine s_fieldAddrF rfl rfl fd67_4 rfl rfl rfl rfl ?_
              refine s_loadF rfl rfl (rowG hx0) ty9 rfl (.inr rfl) (by conv => lhs; whnf) rfl rfl rfl ?_
              refine s_mv (.inl rfl) (by conv => lhs; whnf) rfl rfl rfl ?_
              refine bnd1_elim h fun x12 q13 h => ?_
              refine s_callN (kb := []) (ns := []) (v := .sc (.string x12)) rfl rfl cl40 (ww_markText ((((v0_0 + 1) + 1) + 1) + 1) x12 q13) rfl (.cons (.free rfl) .nil) trivial memNil .nil memNil rfl trivial memNil rfl rfl rfl rfl rfl rfl ?_
              refine s_of (st_neS rfl rfl rfl) rfl rfl rfl rfl ?_
              refine rt_nil ⟨by kernel_rfl, ?_⟩
              refine tri_cond rfl (fun c14 => ?_) (fun c14 => ?_)
              · replace h := cond_t h c14
                refine tri_seq ?_
                refine tri_region ?_
                refine s_mv (.inr rfl) (v := .sc (.int .i64 (-1))) rfl rfl rfl rfl ?_
                refine rt_nil ?_
                refine tri_ret ?_
                have e0 := (some1 h); subst e0
                exact endY [] [] (rvC (resTmp rfl) rvN) trivial trivial rfl rfl rfl rfl (.free rfl)
              · replace h := cond_f h c14
                refine tri_skip ?_
                refine tri_seq ?_
                refine tri_region ?_
                refine s_mv (.inl rfl) (by conv => lhs; whnf) rfl rfl rfl ?_
                refine grd_elim h fun g15 h => ?_
                refine s_addI rfl rfl rfl rfl g15 rfl rfl rfl ?_
                refine s_mv (.inr rfl) (by conv => lhs; whnf) rfl rfl rfl ?_
                refine rt_nil ?_
                refine tri_seq ?_
                refine tri_seq ?_
                refine tri_draw mixed ?_
                refine s_mv (.inl rfl) (by conv => lhs; whnf) rfl rfl rfl ?_
                refine s_mv (.inl rfl) (by conv => lhs; whnf) rfl rfl rfl ?_
                refine s_indexF (i := v0_1) rfl rfl rfl sl27 (get_ltM hx0) rfl rfl rfl ?_
                refine s_fieldAddrF rfl rfl fd67_5 rfl rfl rfl rfl ?_
                refine s_loadF rfl rfl (rowG hx0) ty9 rfl (.inr rfl) (by conv => lhs; whnf) rfl rfl rfl ?_
                refine s_mv (.inl rfl) (by conv => lhs; whnf) rfl rfl rfl ?_
                refine bnd1_elim h fun x16 q17 h => ?_
                refine s_callN (kb := []) (ns := []) (v := .sc (.string x16)) rfl rfl cl40 (ww_markText (((((v0_0 + 1) + 1) + 1) + 1) + 1) x16 q17) rfl (.cons (.free rfl) .nil) trivial memNil .nil memNil rfl trivial memNil rfl rfl rfl rfl rfl rfl ?_
                refine s_of (st_neS rfl rfl rfl) rfl rfl rfl rfl ?_
                refine rt_nil ⟨by kernel_rfl, ?_⟩
                refine tri_cond rfl (fun c18 => ?_) (fun c18 => ?_)
                · replace h := cond_t h c18
                  refine tri_seq ?_
                  refine tri_region ?_
                  refine s_mv (.inr rfl) (v := .sc (.int .i64 (-1))) rfl rfl rfl rfl ?_
                  refine rt_nil ?_
                  refine tri_ret ?_
                  have e0 := (some1 h); subst e0
                  exact endY [] [] (rvC (resTmp rfl) rvN) trivial trivial rfl rfl rfl rfl (.free rfl)
                · replace h := cond_f h c18
                  refine tri_skip ?_
                  refine tri_region ?_
                  refine s_mv (.inl rfl) (by conv => lhs; whnf) rfl rfl rfl ?_
                  refine grd_elim h fun g19 h => ?_
                  refine s_addI rfl rfl rfl rfl g19 rfl rfl rfl ?_
                  refine s_mv (.inr rfl) (by conv => lhs; whnf) rfl rfl rfl ?_
                  refine rt_nil ?_
                  refine tri_region ?_
                  refine s_mv (.inl rfl) (by conv => lhs; whnf) rfl rfl rfl ?_
                  refine s_inc (a := v0_1) (b := 1) rfl rfl rfl rfl (by have := get_lt hx0; have := hl0; omega) rfl rfl rfl ?_
                  refine s_mv (.inr rfl) (by conv => lhs; whnf) rfl rfl rfl ?_
                  refine rt_nil ?_
                  refine Exists.intro ⟨(rs0, (((((v0_0 + 1) + 1) + 1) + 1) + 1) + 1, (v0_1 + 1)), hn0, h⟩ (And.intro (Nat.lt_succ_self _) ?_)
                  refine entX [] [] trivial trivial rfl rfl ?_
                  exact ⟨(.free rfl), (.free rfl), (.free rfl), trivial⟩
    · have he := drop_f hd0 c1; subst he
      rw [w_heldRecordS_l0] at h
      refine tri_exit ?_
      refine tri_seq ?_
      refine tri_region ?_
      refine s_mv (.inl rfl) (by conv => lhs; whnf) rfl rfl rfl ?_
      refine s_mv (.inr rfl) (by conv => lhs; whnf) rfl rfl rfl ?_
      refine rt_nil ?_
      refine tri_ret ?_
      have e0 := (some1 h); subst e0
      exact endY [] [] (rvC (resTmp rfl) rvN) trivial trivial rfl rfl rfl rfl (.free rfl)

/- laws.FnExactGlue -/
def inv_w_FnExactGlue_0 (p0 : MZone) (p1 : List ByteArray) (x11 : List Rec) (x17 : List Rec) (j0_0 : Bool) : St := mkT 92 [(1, .lst 1 (List.map strV p1)), (2, .ptr (2, 0) 0 0), (6, .ref (28, 0) 0 x11.length), (9, .ref (35, 0) 0 x17.length), (63, .sc (.bool j0_0))] [((2, 0), some ⟨33, 2, [[.sc (.string p0.apex), .lst 6 (List.map recV p0.l)]], false, true⟩), ((28, 0), some ⟨67, 6, List.map recV x11, false, true⟩), ((35, 0), some ⟨67, 6, List.map recV x17, false, true⟩)]
set_option maxRecDepth 4000 in
set_option maxHeartbeats 800000 in
theorem ww_FnExactGlue (p0 : MZone) (p1 : List ByteArray) (r0 : Bool) (h : w_FnExactGlue p0 p1 = some r0) : Runs Try.prog 4 [.agg (mZoneV p0), .lst 1 (List.map strV p1)] [] (.sc (.bool r0)) [] := by
  unfold w_FnExactGlue at h
  refine runsR [.tmp 4] Try.func4 rfl rfl rfl rfl ?_
  rw [Try.ntmps4]
  refine tri_seq ?_
  refine tri_region ?_
  refine s_box rfl rfl rfl rfl rfl rfl rfl ?_
  refine s_mv (.inr rfl) (v := .sc (.bool false)) rfl rfl rfl rfl ?_
  refine rt_nil ?_
  refine tri_seq ?_
  refine tri_region ?_
  refine s_mv (.inr rfl) (v := .sc (.int .i64 1048576)) rfl rfl rfl rfl ?_
  refine rt_nil ?_
  refine tri_seq ?_
  refine tri_region ?_
  refine s_loadR rfl rfl rfl rfl ty33 rfl rfl rfl ?_
  refine s_mv (.inl rfl) (by conv => lhs; whnf) rfl rfl rfl ?_
  refine bnd1_elim h fun x1 q2 h => ?_
  refine s_callN (kb := []) (ns := []) (v := .sc (.int .i64 x1)) rfl rfl cl11 (ww_szZone p0 1048576 x1 q2) rfl (.cons (relAgg rfl) (.cons (.free rfl) .nil)) trivial memNil .nil memNil rfl trivial memNil rfl rfl rfl rfl rfl rfl ?_
  refine s_mv (.inr rfl) (by conv => lhs; whnf) rfl rfl rfl ?_
  refine rt_nil ?_
  refine tri_seq ?_
  refine tri_seq ?_
  refine tri_region ?_
  refine s_mv (.inl rfl) (by conv => lhs; whnf) rfl rfl rfl ?_
  refine s_of (st_lss rfl rfl rfl) rfl rfl rfl rfl ?_
  refine rt_nil ?_
  refine tri_cond rfl (fun c3 => ?_) (fun c3 => ?_)
  · replace h := cond_t h c3
    refine tri_seq ?_
    refine tri_region ?_
    refine s_mv (.inr rfl) (v := .sc (.bool true)) rfl rfl rfl rfl ?_
    refine rt_nil ?_
    refine tri_ret ?_
    have e0 := (some1 h); subst e0
    exact endY [] [] (rvC (resTmp rfl) rvN) trivial trivial rfl rfl rfl rfl (.free rfl)
  · replace h := cond_f h c3
    refine tri_skip ?_
    refine tri_seq ?_
    refine tri_region ?_
    refine s_mv (.inl rfl) (by conv => lhs; whnf) rfl rfl rfl ?_
    refine s_mv (.inl rfl) (by conv => lhs; whnf) rfl rfl rfl ?_
    refine bnd1_elim h fun x4 q5 h => ?_
    refine s_callN (kb := []) (ns := []) (v := .sc (.int .i64 x4)) rfl rfl cl12 (ww_szStringS p1 x1 x4 q5) rfl (.cons (.free rfl) (.cons (.free rfl) .nil)) trivial memNil .nil memNil rfl trivial memNil rfl rfl rfl rfl rfl rfl ?_
    refine s_mv (.inr rfl) (by conv => lhs; whnf) rfl rfl rfl ?_
    refine rt_nil ?_
    refine tri_seq ?_
    refine tri_seq ?_
    refine tri_region ?_
    refine s_mv (.inl rfl) (by conv => lhs; whnf) rfl rfl rfl ?_
    refine s_of (st_lss rfl rfl rfl) rfl rfl rfl rfl ?_
    refine rt_nil ?_
    refine tri_cond rfl (fun c6 => ?_) (fun c6 => ?_)
    · replace h := cond_t h c6
      refine tri_seq ?_
      refine tri_region ?_
      refine s_mv (.inr rfl) (v := .sc (.bool true)) rfl rfl rfl rfl ?_
      refine rt_nil ?_
      refine tri_ret ?_
      have e0 := (some1 h); subst e0
      exact endY [] [] (rvC (resTmp rfl) rvN) trivial trivial rfl rfl rfl rfl (.free rfl)
    · replace h := cond_f h c6
      refine tri_skip ?_
      refine tri_seq ?_
      refine tri_region ?_
      refine s_loadR rfl rfl rfl rfl ty33 rfl rfl rfl ?_
      refine bnd1_elim h fun x7 q8 h => ?_
      refine s_callN (kb := []) (ns := []) (v := .agg [.sc (.string x7.apex), .ref (25, 1) 0 x7.l.length]) rfl rfl cl14 (ww_toZone p0 x7 q8) rfl (.cons (relAgg rfl) .nil) trivial memNil .nil memNil rfl ⟨(allSc_map recV_sc), trivial⟩ memNil rfl (by simp only [V.mat, V.mat1, V.mat0, matL, matT, List.length_map]) rfl rfl rfl rfl ?_
      refine s_mv (.inl rfl) (by conv => lhs; whnf) rfl rfl rfl ?_
      refine bnd1_elim h fun x9 q10 h => ?_
      refine s_callN (kb := []) (ns := []) (v := .ref (27, 0) 0 x9.length) rfl rfl cl15 (ww_toStringS p1 x9 q10) rfl (.cons (.free rfl) .nil) trivial memNil .nil memNil rfl ⟨(allSc_map strV_sc), trivial⟩ memNil rfl (by simp only [V.mat, V.mat1, V.mat0, matL, matT, List.length_map]) rfl rfl rfl rfl ?_
      refine bnd1_elim h fun x11 q12 h => ?_
      refine s_callN (kb := [(25, 1), (27, 0)]) (ns := []) (v := .ref (28, 0) 0 x11.length) rfl rfl cl13 (ws_Glue x7 x9 x11 q12) rfl (.cons (relAggL (.cons (.free rfl) (.cons (lendL rfl (.head _) rfl recV_free recV_len) .nil))) (.cons (lendL rfl (.tail _ (.head _)) rfl strV_free strV_len) .nil)) trivial memNil .nil (fun _ _ => List.not_mem_nil) rfl ⟨(allSc_map recV_sc), trivial⟩ memNil rfl (by simp only [V.mat, V.mat1, V.mat0, matL, matT, List.length_map]) rfl rfl rfl rfl ?_
      refine s_mv (.inr rfl) (by conv => lhs; whnf) rfl rfl rfl ?_
      refine rt_nil ?_
      refine tri_seq ?_
      refine tri_region ?_
      refine s_loadR rfl rfl rfl rfl ty33 rfl rfl rfl ?_
      refine bnd1_elim h fun x13 q14 h => ?_
      refine s_callN (kb := []) (ns := []) (v := .agg [.sc (.string x13.apex), .ref (30, 1) 0 x13.l.length]) rfl rfl cl14 (ww_toZone p0 x13 q14) rfl (.cons (relAgg rfl) .nil) trivial memNil .nil memNil rfl ⟨(allSc_map recV_sc), trivial⟩ memNil rfl (by simp only [V.mat, V.mat1, V.mat0, matL, matT, List.length_map]) rfl rfl rfl rfl ?_
      refine s_alloc rfl rfl rfl zc39 rfl rfl rfl rfl rfl ?_
      refine s_storeB rfl rfl rfl ty39 rfl rfl rfl rfl rfl ?_
      refine rt_nil ?_
      refine tri_seq ?_
      refine tri_region ?_
      refine s_mv (.inl rfl) (by conv => lhs; whnf) rfl rfl rfl ?_
      refine bnd1_elim h fun x15 q16 h => ?_
      refine s_callN (kb := []) (ns := []) (v := .ref (32, 0) 0 x15.length) rfl rfl cl15 (ww_toStringS p1 x15 q16) rfl (.cons (.free rfl) .nil) trivial memNil .nil memNil rfl ⟨(allSc_map strV_sc), trivial⟩ memNil rfl (by simp only [V.mat, V.mat1, V.mat0, matL, matT, List.length_map]) rfl rfl rfl rfl ?_
      refine s_mv (.inr rfl) (by conv => lhs; whnf) rfl rfl rfl ?_
      refine rt_nil ?_
      refine tri_seq ?_
      refine tri_region ?_
      refine s_loadR rfl rfl rfl rfl ty39 rfl rfl rfl ?_
      refine s_mv (.inl rfl) (by conv => lhs; whnf) rfl rfl rfl ?_
      refine bnd1_elim h fun x17 q18 h => ?_
      refine s_callN (kb := [(30, 1), (32, 0)]) (ns := []) (v := .ref (35, 0) 0 x17.length) rfl rfl cl16 (wi_Glue x13 x15 x17 q18) rfl (.cons (relAggL (.cons (.free rfl) (.cons (lendL rfl (.head _) rfl recV_free recV_len) .nil))) (.cons (lendL rfl (.tail _ (.head _)) rfl strV_free strV_len) .nil)) trivial memNil .nil (fun _ _ => List.not_mem_nil) rfl ⟨(allSc_map recV_sc), trivial⟩ memNil rfl (by simp only [V.mat, V.mat1, V.mat0, matL, matT, List.length_map]) rfl rfl rfl rfl ?_
      refine s_mv (.inr rfl) (by conv => lhs; whnf) rfl rfl rfl ?_
      refine rt_nil ?_
      refine tri_seq ?_
      refine tri_seq ?_
      refine tri_region ?_
      refine s_mv (.inl rfl) (by conv => lhs; whnf) rfl rfl rfl ?_
      refine s_mv (.inl rfl) (by conv => lhs; whnf) rfl rfl rfl ?_
      refine bnd1_elim h fun x19 q20 h => ?_
      refine s_callN (kb := [(35, 0), (28, 0)]) (ns := []) (v := .sc (.bool x19)) rfl rfl cl17 (ww_eqRecordS x17 x11 x19 q20) rfl (.cons (lendL rfl (.head _) rfl recV_free recV_len) (.cons (lendL rfl (.tail _ (.head _)) rfl recV_free recV_len) .nil)) trivial memNil .nil (fun _ _ => List.not_mem_nil) rfl trivial memNil rfl rfl rfl rfl rfl rfl ?_
      refine s_of (st_not rfl rfl) rfl rfl rfl rfl ?_
      refine rt_nil ?_
      refine tri_cond rfl (fun c21 => ?_) (fun c21 => ?_)
      · replace h := cond_t h c21
        refine tri_seq ?_
        refine tri_region ?_
        refine s_mv (.inr rfl) (v := .sc (.bool false)) rfl rfl rfl rfl ?_
        refine rt_nil ?_
        refine tri_ret ?_
        have e0 := (some1 h); subst e0
        exact endY [] [] (rvC (resTmp rfl) rvN) trivial trivial rfl rfl rfl rfl (.free rfl)
      · replace h := cond_f h c21
        refine tri_skip ?_
        refine tri_seq ?_
        refine tri_seq ?_
        refine tri_draw mixed ?_
        refine s_loadR rfl rfl rfl rfl ty39 rfl rfl rfl ?_
        refine s_loadR rfl rfl rfl rfl ty33 rfl rfl rfl ?_
        refine bnd1_elim h fun x22 q23 h => ?_
        refine s_callN (kb := []) (ns := []) (v := .agg [.sc (.string x22.apex), .ref (42, 1) 0 x22.l.length]) rfl rfl cl14 (ww_toZone p0 x22 q23) rfl (.cons (relAgg rfl) .nil) trivial memNil .nil memNil rfl ⟨(allSc_map recV_sc), trivial⟩ memNil rfl (by simp only [V.mat, V.mat1, V.mat0, matL, matT, List.length_map]) rfl rfl rfl rfl ?_
        refine bnd1_elim h fun x24 q25 h => ?_
        refine s_callN (kb := [(30, 1), (42, 1)]) (ns := []) (v := .sc (.bool x24)) rfl rfl cl18 (ww_eqZone x13 x22 x24 q25) rfl (.cons (relAggL (.cons (.free rfl) (.cons (lendL rfl (.head _) rfl recV_free recV_len) .nil))) (.cons (relAggL (.cons (.free rfl) (.cons (lendL rfl (.tail _ (.head _)) rfl recV_free recV_len) .nil))) .nil)) trivial memNil .nil (fun _ _ => List.not_mem_nil) rfl trivial memNil rfl rfl rfl rfl rfl rfl ?_
        refine s_of (st_not rfl rfl) rfl rfl rfl rfl ?_
        refine rt_nil ⟨by kernel_rfl, ?_⟩
        refine tri_cond rfl (fun c26 => ?_) (fun c26 => ?_)
        · replace h := cond_t h c26
          refine tri_seq ?_
          refine tri_region ?_
          refine s_mv (.inr rfl) (v := .sc (.bool false)) rfl rfl rfl rfl ?_
          refine rt_nil ?_
          refine tri_ret ?_
          have e0 := (some1 h); subst e0
          exact endY [] [] (rvC (resTmp rfl) rvN) trivial trivial rfl rfl rfl rfl (.free rfl)
        · replace h := cond_f h c26
          refine tri_skip ?_
          refine tri_seq ?_
          refine tri_seq ?_
          refine tri_region ?_
          refine s_mv (.inl rfl) (by conv => lhs; whnf) rfl rfl rfl ?_
          refine s_mv (.inl rfl) (by conv => lhs; whnf) rfl rfl rfl ?_
          refine bnd1_elim h fun x27 q28 h => ?_
          refine s_callN (kb := []) (ns := []) (v := .ref (47, 0) 0 x27.length) rfl rfl cl15 (ww_toStringS p1 x27 q28) rfl (.cons (.free rfl) .nil) trivial memNil .nil memNil rfl ⟨(allSc_map strV_sc), trivial⟩ memNil rfl (by simp only [V.mat, V.mat1, V.mat0, matL, matT, List.length_map]) rfl rfl rfl rfl ?_
          refine bnd1_elim h fun x29 q30 h => ?_
          refine s_callN (kb := [(32, 0), (47, 0)]) (ns := []) (v := .sc (.bool x29)) rfl rfl cl19 (ww_eqStringS x15 x27 x29 q30) rfl (.cons (lendL rfl (.head _) rfl strV_free strV_len) (.cons (lendL rfl (.tail _ (.head _)) rfl strV_free strV_len) .nil)) trivial memNil .nil (fun _ _ => List.not_mem_nil) rfl trivial memNil rfl rfl rfl rfl rfl rfl ?_
          refine s_of (st_not rfl rfl) rfl rfl rfl rfl ?_
          refine rt_nil ?_
          refine tri_cond rfl (fun c31 => ?_) (fun c31 => ?_)
          · replace h := cond_t h c31
            refine tri_seq ?_
            refine tri_region ?_
            refine s_mv (.inr rfl) (v := .sc (.bool false)) rfl rfl rfl rfl ?_
            refine rt_nil ?_
            refine tri_ret ?_
            have e0 := (some1 h); subst e0
            exact endY [] [] (rvC (resTmp rfl) rvN) trivial trivial rfl rfl rfl rfl (.free rfl)
          · replace h := cond_f h c31
            refine tri_skip ?_
            refine tri_seq ?_
            refine tri_region ?_
            refine s_mv (.inr rfl) (v := .sc (.int .i64 1)) rfl rfl rfl rfl ?_
            refine rt_nil ?_
            refine tri_seq ?_
            refine tri_region ?_
            refine s_loadR rfl rfl rfl rfl ty39 rfl rfl rfl ?_
            refine s_mv (.inl rfl) (by conv => lhs; whnf) rfl rfl rfl ?_
            refine bnd2_elim h fun x32 x33 q34 h => ?_
            refine grd_elim h fun g35 h => ?_
            refine s_callN (kb := []) (ns := [(30, 1)]) (v := .sc (.int .i64 x32)) rfl rfl cl20 (ww_markZone x13 1 x32 x33 q34) rfl (.cons (relAggL (.cons (.free rfl) (.cons (.refOwn rfl) .nil))) (.cons (.free rfl) .nil)) ⟨⟨_, rfl, rfl⟩, trivial⟩ (memCons (allFree_map recV_free) memNil) (List.nodup_cons.2 ⟨List.not_mem_nil, .nil⟩) memNil rfl trivial (memCons (allSc_map recV_sc) memNil) rfl rfl rfl rfl rfl rfl ?_
            refine s_mv (.inr rfl) (by conv => lhs; whnf) rfl rfl rfl ?_
            refine rt_nil ?_
            refine tri_seq ?_
            refine tri_region ?_
            refine s_mv (.inl rfl) (by conv => lhs; whnf) rfl rfl rfl ?_
            refine s_mv (.inl rfl) (by conv => lhs; whnf) rfl rfl rfl ?_
            refine bnd2_elim h fun x36 x37 q38 h => ?_
            refine grd_elim h fun g39 h => ?_
            refine s_callN (kb := []) (ns := [(32, 0)]) (v := .sc (.int .i64 x36)) rfl rfl cl21 (ww_markStringS x15 x32 x36 x37 q38) rfl (.cons (.refOwn rfl) (.cons (.free rfl) .nil)) ⟨⟨_, rfl, rfl⟩, trivial⟩ (memCons (allFree_map strV_free) memNil) (List.nodup_cons.2 ⟨List.not_mem_nil, .nil⟩) memNil rfl trivial (memCons (allSc_map strV_sc) memNil) rfl rfl rfl rfl rfl rfl ?_
            refine s_mv (.inr rfl) (by conv => lhs; whnf) rfl rfl rfl ?_
            refine rt_nil ?_
            refine tri_seq ?_
            refine tri_cutI (ι := { p : Bool // w_FnExactGlue_j0 p0 p1 x11 x17 p = some r0 }) (fun p => inv_w_FnExactGlue_0 p0 p1 x11 x17 p.1) ?_ ?_
            · skip
              refine tri_region ?_
              refine s_mv (.inl rfl) (by conv => lhs; whnf) rfl rfl rfl ?_
              refine s_of (st_lss rfl rfl rfl) rfl rfl rfl rfl ?_
              refine s_mv (.inl rfl) (by conv => lhs; whnf) rfl rfl rfl ?_
              refine s_split (t := 58) rfl (fun b40 => ?_) (fun b40 => ?_)
              · replace h := cond_t h b40
                refine s_skip rfl rfl rfl ?_
                refine s_skip rfl rfl rfl ?_
                refine s_skip rfl rfl rfl ?_
                refine s_skip rfl rfl rfl ?_
                refine s_pickT rfl rfl (v := .sc (.bool true)) rfl rfl rfl rfl ?_
                refine rt_nil ?_
                refine Exists.intro ⟨true, h⟩ ?_
                refine entX [((2, 0), ⟨33, 2, [[.sc (.string p0.apex), .lst 6 (List.map recV p0.l)]], false, true⟩, some (2, 0)), ((28, 0), ⟨67, 6, List.map recV x11, false, true⟩, some (28, 0)), ((35, 0), ⟨67, 6, List.map recV x17, false, true⟩, some (35, 0))] [] ⟨⟨rfl, _, rfl, rfl, rfl, rfl, id, rowsCv_one (.cons (.free rfl) (.cons (.free rfl) .nil)), rowsZ_one rfl⟩, ⟨rfl, _, rfl, rfl, rfl, rfl, id, rowsCv_eq rfl (allFree_map recV_free), rowsZ_map recV_len⟩, ⟨rfl, _, rfl, rfl, rfl, rfl, id, rowsCv_eq rfl (allFree_map recV_free), rowsZ_map recV_len⟩, trivial⟩ trivial rfl rfl ?_
                exact ⟨(.free rfl), (.ptr rfl), (.ref rfl), (.ref rfl), (.free rfl), trivial⟩
              · replace h := cond_f h b40
                refine s_mv (.inl rfl) (by conv => lhs; whnf) rfl rfl rfl ?_
                refine s_mv (.inl rfl) (by conv => lhs; whnf) rfl rfl rfl ?_
                refine bnd1_elim h fun x41 q42 h => ?_
                refine s_callN (kb := [(35, 0), (28, 0)]) (ns := []) (v := .sc (.bool x41)) rfl rfl cl17 (ww_eqRecordS x17 x11 x41 q42) rfl (.cons (lendL rfl (.head _) rfl recV_free recV_len) (.cons (lendL rfl (.tail _ (.head _)) rfl recV_free recV_len) .nil)) trivial memNil .nil (fun _ _ => List.not_mem_nil) rfl trivial memNil rfl rfl rfl rfl rfl rfl ?_
                refine s_of (st_not rfl rfl) rfl rfl rfl rfl ?_
                refine s_pickF rfl rfl (by conv => lhs; whnf) rfl rfl rfl ?_
                refine rt_nil ?_
                refine Exists.intro ⟨!x41, h⟩ ?_
                refine entX [((2, 0), ⟨33, 2, [[.sc (.string p0.apex), .lst 6 (List.map recV p0.l)]], false, true⟩, some (2, 0)), ((28, 0), ⟨67, 6, List.map recV x11, false, true⟩, some (28, 0)), ((35, 0), ⟨67, 6, List.map recV x17, false, true⟩, some (35, 0))] [] ⟨⟨rfl, _, rfl, rfl, rfl, rfl, id, rowsCv_one (.cons (.free rfl) (.cons (.free rfl) .nil)), rowsZ_one rfl⟩, ⟨rfl, _, rfl, rfl, rfl, rfl, id, rowsCv_eq rfl (allFree_map recV_free), rowsZ_map recV_len⟩, ⟨rfl, _, rfl, rfl, rfl, rfl, id, rowsCv_eq rfl (allFree_map recV_free), rowsZ_map recV_len⟩, trivial⟩ trivial rfl rfl ?_
                exact ⟨(.free rfl), (.ptr rfl), (.ref rfl), (.ref rfl), (.free rfl), trivial⟩
            · rintro ⟨j0_0, h⟩
              replace h : w_FnExactGlue_j0 p0 p1 x11 x17 j0_0 = some r0 := h
              unfold w_FnExactGlue_j0 at h
              show Tri _ _ _ (inv_w_FnExactGlue_0 p0 p1 x11 x17 j0_0)
              refine tri_cond rfl (fun c40 => ?_) (fun c40 => ?_)
              · replace h := cond_t h c40
                refine tri_seq ?_
                refine tri_region ?_
                refine s_mv (.inr rfl) (v := .sc (.bool false)) rfl rfl rfl rfl ?_
                refine rt_nil ?_
                refine tri_ret ?_
                have e0 := (some1 h); subst e0
                exact endY [] [] (rvC (resTmp rfl) rvN) trivial trivial rfl rfl rfl rfl (.free rfl)
              · replace h := cond_f h c40
                refine tri_skip ?_
                refine tri_seq ?_
                refine tri_region ?_
                refine s_mv (.inr rfl) (v := .sc (.int .i64 1)) rfl rfl rfl rfl ?_
                refine rt_nil ?_
                refine tri_seq ?_
                refine tri_region ?_
                refine s_mv (.inl rfl) (by conv => lhs; whnf) rfl rfl rfl ?_
                refine s_mv (.inl rfl) (by conv => lhs; whnf) rfl rfl rfl ?_
                refine bnd2_elim h fun x41 x42 q43 h => ?_
                refine grd_elim h fun g44 h => ?_
                refine s_callN (kb := []) (ns := [(35, 0)]) (v := .sc (.int .i64 x41)) rfl rfl cl22 (ww_markRecordS x17 1 x41 x42 q43) rfl (.cons (.refOwn rfl) (.cons (.free rfl) .nil)) ⟨⟨_, rfl, rfl⟩, trivial⟩ (memCons (allFree_map recV_free) memNil) (List.nodup_cons.2 ⟨List.not_mem_nil, .nil⟩) memNil rfl trivial (memCons (allSc_map recV_sc) memNil) rfl rfl rfl rfl rfl rfl ?_
                refine s_mv (.inr rfl) (by conv => lhs; whnf) rfl rfl rfl ?_
                refine rt_nil ?_
                refine tri_seq ?_
                refine tri_region ?_
                refine s_mv (.inr rfl) (v := .sc (.int .i64 1)) rfl rfl rfl rfl ?_
                refine rt_nil ?_
                refine tri_seq ?_
                refine tri_region ?_
                refine s_mv (.inl rfl) (by conv => lhs; whnf) rfl rfl rfl ?_
                refine s_mv (.inl rfl) (by conv => lhs; whnf) rfl rfl rfl ?_
                refine bnd1_elim h fun x45 q46 h => ?_
                refine s_callN (kb := [(35, 0)]) (ns := []) (v := .sc (.int .i64 x45)) rfl rfl cl23 (ww_heldRecordS x42 1 x45 q46) rfl (.cons (lendL rfl (.head _) (by simp only [List.length_set, g44]) recV_free recV_len) (.cons (.free rfl) .nil)) trivial memNil .nil (fun _ _ => List.not_mem_nil) rfl trivial memNil rfl rfl rfl rfl rfl rfl ?_
                refine s_mv (.inr rfl) (by conv => lhs; whnf) rfl rfl rfl ?_
                refine rt_nil ?_
                refine tri_seq ?_
                refine tri_seq ?_
                refine tri_region ?_
                refine s_mv (.inl rfl) (by conv => lhs; whnf) rfl rfl rfl ?_
                refine s_of (st_lss rfl rfl rfl) rfl rfl rfl rfl ?_
                refine rt_nil ?_
                refine tri_cond rfl (fun c47 => ?_) (fun c47 => ?_)
                · replace h := cond_t h c47
                  refine tri_seq ?_
                  refine tri_region ?_
                  refine s_mv (.inr rfl) (v := .sc (.bool false)) rfl rfl rfl rfl ?_
                  refine rt_nil ?_
                  refine tri_ret ?_
                  have e0 := (some1 h); subst e0
                  exact endY [] [] (rvC (resTmp rfl) rvN) trivial trivial rfl rfl rfl rfl (.free rfl)
                · replace h := cond_f h c47
                  refine tri_skip ?_
                  refine tri_seq ?_
                  refine tri_seq ?_
                  refine tri_region ?_
                  refine s_mv (.inl rfl) (by conv => lhs; whnf) rfl rfl rfl ?_
                  refine s_mv (.inl rfl) (by conv => lhs; whnf) rfl rfl rfl ?_
                  refine s_of (st_neI rfl rfl rfl) rfl rfl rfl rfl ?_
                  refine rt_nil ?_
                  refine tri_cond rfl (fun c48 => ?_) (fun c48 => ?_)
                  · replace h := cond_t h c48
                    refine tri_seq ?_
                    refine tri_region ?_
                    refine s_mv (.inr rfl) (v := .sc (.bool false)) rfl rfl rfl rfl ?_
                    refine rt_nil ?_
                    refine tri_ret ?_
                    have e0 := (some1 h); subst e0
                    exact endY [] [] (rvC (resTmp rfl) rvN) trivial trivial rfl rfl rfl rfl (.free rfl)
                  · replace h := cond_f h c48
                    refine tri_skip ?_
                    refine tri_seq ?_
                    refine tri_region ?_
                    refine s_loadR rfl rfl rfl rfl ty33 rfl rfl rfl ?_
                    refine bnd1_elim h fun x49 q50 h => ?_
                    refine s_callN (kb := []) (ns := []) (v := .agg [.sc (.string x49.apex), .ref (76, 1) 0 x49.l.length]) rfl rfl cl14 (ww_toZone p0 x49 q50) rfl (.cons (relAgg rfl) .nil) trivial memNil .nil memNil rfl ⟨(allSc_map recV_sc), trivial⟩ memNil rfl (by simp only [V.mat, V.mat1, V.mat0, matL, matT, List.length_map]) rfl rfl rfl rfl ?_
                    refine s_mv (.inl rfl) (by conv => lhs; whnf) rfl rfl rfl ?_
                    refine bnd1_elim h fun x51 q52 h => ?_
                    refine s_callN (kb := []) (ns := []) (v := .ref (78, 0) 0 x51.length) rfl rfl cl15 (ww_toStringS p1 x51 q52) rfl (.cons (.free rfl) .nil) trivial memNil .nil memNil rfl ⟨(allSc_map strV_sc), trivial⟩ memNil rfl (by simp only [V.mat, V.mat1, V.mat0, matL, matT, List.length_map]) rfl rfl rfl rfl ?_
                    refine bnd1_elim h fun x53 q54 h => ?_
                    refine s_callN (kb := [(76, 1), (78, 0)]) (ns := []) (v := .ref (79, 0) 0 x53.length) rfl rfl cl16 (wi_Glue x49 x51 x53 q54) rfl (.cons (relAggL (.cons (.free rfl) (.cons (lendL rfl (.head _) rfl recV_free recV_len) .nil))) (.cons (lendL rfl (.tail _ (.head _)) rfl strV_free strV_len) .nil)) trivial memNil .nil (fun _ _ => List.not_mem_nil) rfl ⟨(allSc_map recV_sc), trivial⟩ memNil rfl (by simp only [V.mat, V.mat1, V.mat0, matL, matT, List.length_map]) rfl rfl rfl rfl ?_
                    refine s_mv (.inr rfl) (by conv => lhs; whnf) rfl rfl rfl ?_
                    refine rt_nil ?_
                    refine tri_seq ?_
                    refine tri_seq ?_
                    refine tri_region ?_
                    refine s_mv (.inl rfl) (by conv => lhs; whnf) rfl rfl rfl ?_
                    refine s_mv (.inl rfl) (by conv => lhs; whnf) rfl rfl rfl ?_
                    refine bnd1_elim h fun x55 q56 h => ?_
                    refine s_callN (kb := [(79, 0), (28, 0)]) (ns := []) (v := .sc (.bool x55)) rfl rfl cl17 (ww_eqRecordS x53 x11 x55 q56) rfl (.cons (lendL rfl (.head _) rfl recV_free recV_len) (.cons (lendL rfl (.tail _ (.head _)) rfl recV_free recV_len) .nil)) trivial memNil .nil (fun _ _ => List.not_mem_nil) rfl trivial memNil rfl rfl rfl rfl rfl rfl ?_
                    refine s_of (st_not rfl rfl) rfl rfl rfl rfl ?_
                    refine rt_nil ?_
                    refine tri_cond rfl (fun c57 => ?_) (fun c57 => ?_)
                    · replace h := cond_t h c57
                      refine tri_seq ?_
                      refine tri_region ?_
                      refine s_mv (.inr rfl) (v := .sc (.bool false)) rfl rfl rfl rfl ?_
                      refine rt_nil ?_
                      refine tri_ret ?_
                      have e0 := (some1 h); subst e0
                      exact endY [] [] (rvC (resTmp rfl) rvN) trivial trivial rfl rfl rfl rfl (.free rfl)
                    · replace h := cond_f h c57
                      refine tri_skip ?_
                      refine tri_seq ?_
                      refine tri_region ?_
                      refine s_mv (.inr rfl) (v := .sc (.int .i64 1)) rfl rfl rfl rfl ?_
                      refine rt_nil ?_
                      refine tri_seq ?_
                      refine tri_region ?_
                      refine s_mv (.inl rfl) (by conv => lhs; whnf) rfl rfl rfl ?_
                      refine s_mv (.inl rfl) (by conv => lhs; whnf) rfl rfl rfl ?_
                      refine bnd1_elim h fun x58 q59 h => ?_
                      refine s_callN (kb := [(35, 0)]) (ns := []) (v := .sc (.int .i64 x58)) rfl rfl cl23 (ww_heldRecordS x42 1 x58 q59) rfl (.cons (lendL rfl (.head _) (by simp only [List.length_set, g44]) recV_free recV_len) (.cons (.free rfl) .nil)) trivial memNil .nil (fun _ _ => List.not_mem_nil) rfl trivial memNil rfl rfl rfl rfl rfl rfl ?_
                      refine s_mv (.inr rfl) (by conv => lhs; whnf) rfl rfl rfl ?_
                      refine rt_nil ?_
                      refine tri_seq ?_
                      refine tri_seq ?_
                      refine tri_region ?_
                      refine s_mv (.inl rfl) (by conv => lhs; whnf) rfl rfl rfl ?_
                      refine s_of (st_lss rfl rfl rfl) rfl rfl rfl rfl ?_
                      refine rt_nil ?_
                      refine tri_cond rfl (fun c60 => ?_) (fun c60 => ?_)
                      · replace h := cond_t h c60
                        refine tri_seq ?_
                        refine tri_region ?_
                        refine s_mv (.inr rfl) (v := .sc (.bool false)) rfl rfl rfl rfl ?_
                        refine rt_nil ?_
                        refine tri_ret ?_
                        have e0 := (some1 h); subst e0
                        exact endY [] [] (rvC (resTmp rfl) rvN) trivial trivial rfl rfl rfl rfl (.free rfl)
                      · replace h := cond_f h c60
                        refine tri_skip ?_
                        refine tri_seq ?_
                        refine tri_seq ?_
                        refine tri_region ?_
                        refine s_mv (.inl rfl) (by conv => lhs; whnf) rfl rfl rfl ?_
                        refine s_mv (.inl rfl) (by conv => lhs; whnf) rfl rfl rfl ?_
                        refine s_of (st_neI rfl rfl rfl) rfl rfl rfl rfl ?_
                        refine rt_nil ?_
                        refine tri_cond rfl (fun c61 => ?_) (fun c61 => ?_)
                        · replace h := cond_t h c61
                          refine tri_seq ?_
                          refine tri_region ?_
                          refine s_mv (.inr rfl) (v := .sc (.bool false)) rfl rfl rfl rfl ?_
                          refine rt_nil ?_
                          refine tri_ret ?_
                          have e0 := (some1 h); subst e0
                          exact endY [] [] (rvC (resTmp rfl) rvN) trivial trivial rfl rfl rfl rfl (.free rfl)
                        · replace h := cond_f h c61
                          refine tri_skip ?_
                          refine tri_seq ?_
                          refine tri_region ?_
                          refine s_mv (.inr rfl) (v := .sc (.bool true)) rfl rfl rfl rfl ?_
                          refine rt_nil ?_
                          refine tri_ret ?_
                          have e0 := (some1 h); subst e0
                          exact endY [] [] (rvC (resTmp rfl) rvN) trivial trivial rfl rfl rfl rfl (.free rfl)

end Go.Abs.M
